/- Package contract: contracts in memory; small functions on them. Condition: the contract lies in memory. -/
import Derived.Test.YtkmbmfengcdmoaaGreatDoorZAF
import Derived.Test.YtkmbmfengcdmoaaGreatDoorZAL
set_option maxRecDepth 100000
set_option linter.all false
namespace Go.Cv
theorem uR(s:ByteArray):s.toList.isEmpty=decide (s=ByteArray.empty):=by
 rw[Px,uD,List.isEmpty_iff,ByteArray.toList_eq];constructor
 ·intro h;apply Sl;apply M5;rw[h];rfl
 ·intro h;rw[h];rfl
structure Un where
 name:ByteArray
 kind:Int
 base:Int
 num:Int
 den:Int
def lp(u:Un):List Value:= [.string u.name, .int .i64 u.kind, .int .i64 u.base, .int .i64 u.num, .int .i64 u.den]
theorem uS(u:Un):∀v∈lp u,v.oneCell'=true:=λv hv=>by
 simp only[lp,lC,DR,DW]at hv;rcases hv with rfl|rfl|rfl|rfl|rfl<;>rfl
def MV(us:List Un)(u:Un):Bool:=decide (0<=u.base)&&(match us[u.base.toNat]? with|some v=>decide (v.kind=u.kind)&&decide (v.base=u.base)|none=>false)
def fV(us:List Un)(i:Nat)(u:Un):Bool:=
 decide (i<20)&&(!decide (u.name=ByteArray.empty)&&((us.take i).all (λo=> !decide (o.name=u.name))&&((decide (u.kind=1)||decide (u.kind=2))&&(mZ u.num u.den&&(decide (0<u.num)&&(MV us u&&(!decide (u.base=(i:Int))||(decide (u.num=1)&&decide (u.den=1)))))))))
def tR(us:List Un):Bool:=(List.range us.length).all λi=>match us[i]? with|some u=>fV us i u|none=>true
end Go.Cv
namespace Go.Proofs.YtkmbmfengcdmoaaGreatDoor
open Go.RowKit Go.W32 Go.ay Go.Cs Go.Lib Go.Opn Go.Mg Go.Cv

theorem mQ{o:Oper}{ops:Array Oper}{a:Act}{j t:Nat}{b:Bool}(c:o.guard=some (j,b))(d:(ops[j]?).bind (·.dst)=some t)(e:a.tmps[t]? =some undef):Region.wanted o (yielded ops a.tmps)=false:=by unfold Region.wanted yielded;rw[c];simp only[d,Option.bind_some,e];rfl
theorem Qo{P:Program}{ops:Array Oper}{rest:List Oper}{a:Act}{Q:Exit->Act->World->Prop}(t:TypeId){x y:Operand}{d:Option Tmp}{ty:TypeId}{c:String}{b:Array Edge}{g:Option (Nat×Bool)}{w:World}
  (h:wpList P ops Q (⟨d, .binOp .eql t x y t,ty,c,b,g⟩::rest) a w):wpList P ops Q (⟨d, .binOp .eql t x y t,ty,c,b,g⟩::rest) a w:=h
theorem Ex{ρ:Operand->Value}{a:Oper}{w:World}{x y:Operand}{n d:Int}(e:a.op= .binOp .eql 32 x y 32)(f:ρ x= .agg [.int .i64 n, .int .i64 d].toArray)(g:ρ y= .agg #[.int .i64 1, .int .i64 1]):
  (execOp ρ a).run Tryz.prog w= .ok (.value (.bool (decide (n=1)&&decide (d=1)))) w:=by
 unfold execOp;simp only[e,f,g];by_cases b:n=1<;>by_cases c:d=1<;>(go_simp<;>simp[b,c])
theorem OQ(A:Option Addr)(n c:Nat)(i:Int)(W:World):Calls Tryz.prog 259 #[.slice A n c, .int .i64 i] W λe w'=>e= .returned (.bool (decide (0<=i)&&decide (i<(n:Int))))/\W=w':=by
 by_cases h:0<=i
 ·have a:decide (0<=i)=true:=dt h;go_enter Tryz.func259,Tryz.ntmps259;go_wp2_with fail;go_ret;exact⟨by rw[a];rfl,rfl⟩
 ·have a:decide (0<=i)=false:=dy h;go_enter Tryz.func259,Tryz.ntmps259;go_wp2_with fail;go_ret;first
   |exact⟨rfl,rfl⟩
   |exact⟨by rw[a];rfl,rfl⟩
theorem IV(A:Option Addr)(n c:Nat)(i:Int)(W:World):Calls Tryz.prog 259 #[.slice A n c, .int .i64 i] W λe w'=>e= .returned (.bool (decide (0<=i)&&decide (i<(n:Int))))/\Below W.heap.size W w':=
 (OQ A n c i W).mono λ_ _ ⟨a,b⟩=>⟨a,by subst b;exact Below.refl _ _⟩
theorem wG(cs:List Value)(h:cs.length=5):(Tryz.prog.info? 262).map (·.size)=some cs.length:=by rw[h];kernel_rfl
theorem rL(cs:List Value)(h:cs.length=2):(Tryz.prog.info? 32).map (·.size)=some cs.length:=by rw[h];kernel_rfl
theorem zJ{cs:List Value}(c:cs.length=5)(f:∀v∈cs,v.oneCell'=true)(s t:Nat)(e h:World)(b:Nat)(k:b=e.heap.size)(j:h=e.alloc (.cells cs.toArray 262))(Q:Exit->Act->World->Prop)(ops:Array Oper)(rest:List Oper)(o:Oper)(a:Act)(g:o.guard=none)(l:o.op= .store 262 (.tmp s) (.tmp t))(m:a.eval (.tmp s)= .pointer (some ⟨b,0,none⟩))(n:a.eval (.tmp t)= .agg cs.toArray)(ju:Array Value)(d:ju.size=5)(i:wpList Tryz.prog ops Q rest (a.put o.dst undef) h):wpList Tryz.prog ops Q (o::rest) a (e.alloc (.cells ju 262)):=by rw[j]at i;exact Hk.aD g 262 (.tmp s) (.tmp t) l b _ m n ju 262 k (by rw[wG cs c];simp) (by rw[d];simp[c]) (all_oneCell_toArray f) i
structure Qj (w:World) (b:Nat) (u:Un):Prop where
 q0:w.cell? ⟨b,0,none⟩=some (.string u.name)
 q1:w.cell? ⟨b,1,none⟩=some (.int .i64 u.kind)
 q2:w.cell? ⟨b,2,none⟩=some (.int .i64 u.base)
 q3:w.cell? ⟨b,3,none⟩=some (.int .i64 u.num)
 q4:w.cell? ⟨b,4,none⟩=some (.int .i64 u.den)
theorem Qj.of{w:World}{b:Nat}{T:TypeId}{u:Un}(h:Row w b T (lp u)):Qj w b u:=⟨h.at rfl,h.at rfl,h.at rfl,h.at rfl,h.at rfl⟩
def SJ(W1:World)(us:List Un)(u:Un)(n:Nat)(v:Value)(wr:World):Prop:=∃k:Nat,v= .int .i64 (k:Int)/\k<=n/\(us.take k).all (λo=> !decide (o.name=u.name))=true/\Below W1.heap.size W1 wr
theorem Hm(X Y:ByteArray):(X.toList==Y.toList)=decide (X=Y):=by rw[Px];simp only[beq_iff_eq,uD,ByteArray.toList_eq];exact⟨λh=>wh h,λh=>by rw[h]⟩
set_option maxHeartbeats 4000000 in
theorem Pm(A:Option Addr)(c:Nat)(a:List Un)(i:Nat)(u:Un)(W:World)(hu:a[i]? =some u)(hl:SL W 5 lp A a)(hc:a.length<=c)(hn:a.length<=1000):
  Calls Tryz.prog 221 #[.slice A a.length c, .int .i64 (i:Int)] W λe w'=>e= .returned (.bool (fV a i u))/\Below W.heap.size W w':=by
 obtain⟨R,eR⟩:=x_ (λe w'=>e= .returned (.bool (fV a i u))/\Below W.heap.size W w':Ending->World->Prop)
 rw[<-eR];have l:Hid (∀w' v,v=fV a i u->Below W.heap.size W w'->R (.returned (.bool v)) w'):=h_ λw' v h F=>by rw[eR,h];exact⟨rfl,F⟩
 clear eR;have d8:i<a.length:=(jS.1 hu).1;have ul:(i:Int)<(a.length:Int):=by omega
 obtain⟨b,m,rfl⟩:=cG hl (by rintro rfl;simp at d8);obtain⟨cs,P⟩:=x_ (lp u)
 have d6:cs.length=5:=by rw[P];rfl
 have HM:Hid (W.rangeAt b (m+i*5) cs):=h_ (by rw[P];exact dq hl hu);have HI:=h_ (wG cs d6);obtain⟨t,e1⟩:=x_ (W.alloc (.cells cs.toArray 262))
 have f8:Row t W.heap.size 262 cs:=by rw[e1];exact Row.new _ _ _
 have co:Below W.heap.size W t:=by rw[e1];exact(Below.refl _ _).alloc (aL _) _
 have bi:=h_ (zJ d6 (by rw[P];exact uS u) 5 11 W t _ rfl e1);have HQ:Hid (∀w',Below t.heap.size t w'->Qj w' W.heap.size u):=h_ λw' F=>Qj.of (T:=262) (by rw[<-P];exact f8.below F f8.lt)
 have HL:Hid (∀w',Below t.heap.size t w'->SL w' 5 lp (some ⟨b,m,none⟩) a):=h_ λw' F=>hl.below (co.trans (F.mono co.size)) (aL _)
 have n:=h_ co;have HU:=h_ hu;obtain⟨q0,q1,q2,q3,q4⟩:=HQ.out t (Below.refl _ _);have sm:(i:Int)<=(c:Int):=by omega
 have rx:(0:Int)<=(i:Int):=by omega
 clear e1 f8 co hl hu d6 P;by_cases jp:i<20;rotate_left
 ·have ld: ¬(i:Int)<20:=by omega
  have kw:decide ((20:Int)<=(i:Int))=true:=dt (by omega);have J:=h_ (l.out t false (by unfold fV;rw[dy jp];rfl) n.out);clear l q1 q2 q3 q4;go_enter Tryz.func221,Tryz.ntmps221;go_wp2_with (first
   |(refine aH (.tmp 10) ?_;refine wpList_load_mid rfl 262 (.tmp 10) rfl b (m+i*5) rfl cs _ HM.out Tryz.underlying262 rfl HI.out ?_)
   |(refine aN (.tmp 5) ?_;refine bi.out _ _ _ _ _ rfl rfl rfl rfl _ (by simp) ?_;simp only[Pt]))
  exact J.out
 have kw:decide ((20:Int)<=(i:Int))=false:=dy (by omega);have ld:(i:Int)<20:=by omega
 have V1:Hid (fV a i u=(!decide (u.name=ByteArray.empty)&&((a.take i).all (λo=> !decide (o.name=u.name))&&((decide (u.kind=1)||decide (u.kind=2))&&(mZ u.num u.den&&(decide (0<u.num)&&(MV a u&&(!decide (u.base=(i:Int))||(decide (u.num=1)&&decide (u.den=1)))))))))):=h_ (by unfold fV;rw[dt jp];rfl);by_cases hE:u.name=ByteArray.empty
 ·have nl:u.name.toList= []:=List.isEmpty_iff.1 ((uR u.name).trans (dt hE));have J:=h_ (l.out t false (by rw[V1.out,dt hE];rfl) n.out);clear l hE V1;go_enter Tryz.func221,Tryz.ntmps221;go_wp2_with (first
   |(refine aH (.tmp 10) ?_;refine wpList_load_mid rfl 262 (.tmp 10) rfl b (m+i*5) rfl cs _ HM.out Tryz.underlying262 rfl HI.out ?_)
   |(refine aN (.tmp 5) ?_;refine bi.out _ _ _ _ _ rfl rfl rfl rfl _ (by simp) ?_;simp only[Pt]))
  exact J.out
 have OJ:u.name.toList.isEmpty=false:=(uR u.name).trans (dy hE);have nl:u.name.toList≠ []:=λh=>by rw[h]at OJ;cases OJ
 have V2:Hid (fV a i u=((a.take i).all (λo=> !decide (o.name=u.name))&&((decide (u.kind=1)||decide (u.kind=2))&&(mZ u.num u.den&&(decide (0<u.num)&&(MV a u&&(!decide (u.base=(i:Int))||(decide (u.num=1)&&decide (u.den=1))))))))):=h_ (by rw[V1.out,dy hE];rfl);have i8:Hid (SJ t a u i (.int .i64 0) t):=h_ ⟨0,rfl,gu _,rfl,Below.refl _ _⟩;have g7:=h_ d8;clear hE V1 d8;go_enter Tryz.func221,Tryz.ntmps221;go_wp2_with (first
  |(refine aH (.tmp 10) ?_;refine wpList_load_mid rfl 262 (.tmp 10) rfl b (m+i*5) rfl cs _ HM.out Tryz.underlying262 rfl HI.out ?_)
  |(refine aN (.tmp 5) ?_;refine bi.out _ _ _ _ _ rfl rfl rfl rfl _ (by simp) ?_;simp only[Pt]))
 go_loopw [23] (λv wr=>SJ t a u i v wr) (λv _=>(i:Int).toNat- (RowKit.intOf v).toNat)
 case atStart=>exact i8.out
 case round=>
  clear i8;obtain⟨k,rfl,N,ci,C⟩:=hrel;have mt:(k:Int)<=1000:=by have:=g7.out;omega
  rcases pC N with d9|d9
  ·have pl:(k:Int)<(i:Int):=by omega
   obtain⟨o,eo⟩:∃x,a[k]? =some x:=⟨_,eH (by have:=g7.out;omega)⟩
   obtain⟨ds,Q⟩:=x_ (lp o)
   have d7:ds.length=5:=by rw[Q];rfl
   have io:Hid (wr.rangeAt b (m+k*5) ds):=h_ (by rw[Q];exact dq (HL.out wr C) eo);have g8:=h_ (wG ds d7);obtain⟨Wk,ek⟩:=x_ (wr.alloc (.cells ds.toArray 262))
   have m4:Row Wk wr.heap.size 262 ds:=by rw[ek];exact Row.new _ _ _
   have li:Below wr.heap.size wr Wk:=by rw[ek];exact(Below.refl _ _).alloc (aL _) _
   have i9:=h_ (zJ d7 (by rw[Q];exact uS o) 7 26 wr Wk _ rfl ek);have U:=C.trans (li.mono C.size);obtain⟨p0,p1,p2,p3,p4⟩:=HQ.out Wk U;obtain⟨o0,o1,o2,o3,o4⟩:=Qj.of (T:=262) (by rw[<-Q];exact m4);have gc:=h_ U;have m8:=h_ ci;have EO:=h_ eo;clear Q d7 ek m4 li ci eo C U p1 p2 p3 p4 o1 o2 o3 o4 N;by_cases I:o.name=u.name
   ·have pu:(o.name.toList==u.name.toList)=true:=by rw[Hm];exact dt I
    have J:=h_ (l.out Wk false (by
     rw[V2.out]
     have:(a.take i).all (λo=> !decide (o.name=u.name))=false:=by rw[List.all_eq_false];exact⟨o,ue (by rw[Sj (by omega)];exact EO.out:(a.take i)[k]? =some o),by simp[I]⟩
     rw[this];rfl) (n.out.trans (gc.out.mono n.out.size)))
    rw[I]at o0;clear l I V2;go_wp2_with (first
     |(refine aH (.tmp 25) ?_;refine wpList_load_mid rfl 262 (.tmp 25) rfl b (m+k*5) rfl ds _ io.out Tryz.underlying262 rfl g8.out ?_)
     |(refine aN (.tmp 7) ?_;refine i9.out _ _ _ _ _ rfl rfl rfl rfl _ (by simp) ?_;simp only[Pt]))
    exact J.out
   ·have pu:(o.name.toList==u.name.toList)=false:=by rw[Hm];exact dy I
    have HN:Hid (SJ t a u i (.int .i64 ((k:Int)+1)) Wk):=h_ ⟨k+1,rfl,d9,lI EO.out m8.out (by simp[I]),gc.out⟩;clear I;go_wp2_with (first
     |(refine aH (.tmp 25) ?_;refine wpList_load_mid rfl 262 (.tmp 25) rfl b (m+k*5) rfl ds _ io.out Tryz.underlying262 rfl g8.out ?_)
     |(refine aN (.tmp 7) ?_;refine i9.out _ _ _ _ _ rfl rfl rfl rfl _ (by simp) ?_;simp only[Pt]))
    go_roundw
    case rel=>exact HN.out
    case measure=>simp[RowKit.intOf];omega
  ·have pl: ¬(k:Int)<(i:Int):=by omega
   subst d9;have f9:=h_ C;have V3:Hid (fV a k u=((decide (u.kind=1)||decide (u.kind=2))&&(mZ u.num u.den&&(decide (0<u.num)&&(MV a u&&(!decide (u.base=(k:Int))||(decide (u.num=1)&&decide (u.den=1)))))))):=h_ (by rw[V2.out,ci];rfl);obtain⟨q0,q1,q2,q3,q4⟩:=HQ.out wr C;obtain⟨fs,S⟩:=x_ ([.int .i64 u.num, .int .i64 u.den]:List Value)
   have ge:Hid (∀w',Below t.heap.size t w'->w'.rangeAt W.heap.size 3 fs):=h_ λw' F=>by
    obtain⟨a0,a1,a2,a3,a4⟩:=HQ.out w' F;rw[S];intro j v K
    match j,K with
    |0,K=>cases K;exact a3
    |1,K=>cases K;exact a4
    |j+2,K=>simp at K
   have m9:=h_ (ge.out wr C);have gt:=h_ (rL fs (by rw[S];rfl));have CR:=h_ (Dv u.num u.den wr);rw[show(#[.int .i64 u.num, .int .i64 u.den]:Array Value)=fs.toArray by rw[S]]at CR;obtain⟨RV,i'⟩:=x_ (mZ u.num u.den)
   rw[<-i']at CR V3;have m7:=h_ S;clear V2 ci C N S i' HM bi;generalize k=i at*;by_cases k0:u.kind=1\/u.kind=2
   ·have V4:Hid (fV a i u=(RV&&(decide (0<u.num)&&(MV a u&&(!decide (u.base=(i:Int))||(decide (u.num=1)&&decide (u.den=1))))))):=h_ (by rw[V3.out];rcases k0 with k|k<;>simp[k]);have kk:((u.kind==1)=true/\(u.kind !=1)=false)\/((u.kind==1)=false/\(u.kind !=1)=true/\(u.kind==2)=true/\(u.kind !=2)=false):=by rcases k0 with k|k<;>simp[k]
    clear V3 k0;rcases kk with⟨m5,m6⟩|⟨m5,m6,qr,ro⟩
    all_goals
     go_wp2_with (refine aH (.tmp 42) ?_;refine Row.still (Free.wq rfl) (Hk.aU 32 (.tmp 42) rfl W.heap.size 3 rfl fs _ m9.out Tryz.underlying32 rfl gt.out) ?_;simp only[Pt])
     refine CR.out.mono ?_;rintro e D ⟨rfl,lm⟩;have d:=h_ (f9.out.trans (lm.mono f9.out.size));obtain⟨q0,q1,q2,q3,q4⟩:=HQ.out D d.out;clear lm CR;cases RV with
     |false=>have J:=h_ (l.out D false (by rw[V4.out];rfl) (n.out.trans (d.out.mono n.out.size)));clear l;go_wp2_with fail;exact J.out
     |true=>
     by_cases V:0<u.num;rotate_left
     ·have py:decide (u.num<=0)=true:=dt (by omega);have J:=h_ (l.out D false (by rw[V4.out,dy V];rfl) (n.out.trans (d.out.mono n.out.size)));clear l;go_wp2_with fail;exact J.out
     have py:decide (u.num<=0)=false:=dy (by omega);have V5:Hid (fV a i u=(MV a u&&(!decide (u.base=(i:Int))||(decide (u.num=1)&&decide (u.den=1))))):=h_ (by rw[V4.out,dt V];rfl);have M:=h_ (λw=>IV (some ⟨b,m,none⟩) a.length c u.base w);obtain⟨IB,dl⟩:=x_ ((decide (0<=u.base)&&decide (u.base<(a.length:Int))))
     rw[<-dl]at M;have an:=h_ dl;clear dl V4 V;cases IB with
     |false=>
      have J:Hid (∀w',Below D.heap.size D w'->R (.returned (.bool false)) w'):=h_ λw' F=>l.out w' false (by
       rw[V5.out]
       have:MV a u=false:=by
        unfold MV;have h:=an.out;by_cases h0:0<=u.base
        ·rw[dt h0,M8]at h;have h1:=of_decide_eq_false h.symm;rw[pz (by omega)];simp
        ·rw[dy h0];rfl
       rw[this];rfl) (n.out.trans ((d.out.trans (F.mono d.out.size)).mono n.out.size))
      clear l;go_wp2_with fail;refine Free.ai 27 [(3, .det (.bool false))] (λw'=>Below D.heap.size D w') (by kernel_rfl) (by kernel_rfl) (Free.aW (λj mk r H=>by simp only[Free.find]at H;repeat' (first|cases H|split at H))) (Below.refl _ _).drew (λ_ _ h g=>h.trans (Below.mono g h.size)) ?_;simp only[eJ,dT];iterate 27 (first|(apply Free.dw (by first|exact fk rfl rfl rfl rfl|exact mQ rfl rfl rfl);simp only[Pt])|(apply Free.aC (Free.wq rfl) rfl;(intro w' z E;refine Free.au (f:=259) (args:= #[.slice (some ⟨b,m,none⟩) a.length c, .int .i64 u.base]) (by clear z E;go_simp<;>rfl) ?_;refine(M.out _).mono ?_;rintro e w3 ⟨rfl,G⟩;exact⟨_,rfl,G,rfl⟩);simp only[Pt])|(apply Free.ae (Free.wq rfl) rfl;(intro w' z E;obtain⟨q0,q1,q2,q3,q4⟩:=HQ.out w' (d.out.trans (z.mono d.out.size));clear E;go_light;go_simp<;>rfl);(try simp only[Pt])))
      apply Free.ax;intro L p _ _;simp only[fm,fo];have s:=h_ (J.out L p);clear p J;go_wp2_with fail;exact s.out
     |true=>
     obtain⟨j,K⟩:∃j:Nat,u.base=(j:Int):=⟨u.base.toNat,by have h:=an.out;have:=Sc (Bool.and_eq_true_iff.1 h.symm).1;omega⟩
     have lw:j<a.length:=by have h:=an.out;have:=Sc (Bool.and_eq_true_iff.1 h.symm).2;omega
     obtain⟨v,ev⟩:∃x,a[j]? =some x:=⟨_,eH lw⟩
     have V6:Hid (fV a i u=((decide (v.kind=u.kind)&&decide (v.base=u.base))&&(!decide (u.base=(i:Int))||(decide (u.num=1)&&decide (u.den=1))))):=h_ (by
      rw[V5.out];unfold MV;have h0:decide (0<=u.base)=true:=dt (by omega);have h1:a[u.base.toNat]? =some v:=by rw[K,tZ];exact ev
      rw[h0,h1];rfl)
     have X:Hid (∀w',Below D.heap.size D w'->w'.cell? ⟨b,m+j*5+1,none⟩=some (.int .i64 v.kind)/\w'.cell? ⟨b,m+j*5+2,none⟩=some (.int .i64 v.base)):=h_ λw' F=>by
      have h:=dq (HL.out w' (d.out.trans (F.mono d.out.size))) ev;exact⟨h 1 _ rfl,h 2 _ rfl⟩
     have v6:(j:Int)<(a.length:Int):=by omega
     have up:(0:Int)<=(j:Int):=by omega
     have ut:((j:Int)).toNat=j:=by omega
     have rt:=h_ K;have O:Hid (∀w',Below t.heap.size t w'->w'.cell? ⟨W.heap.size,0,none⟩=some (.string u.name)/\w'.cell? ⟨W.heap.size,1,none⟩=some (.int .i64 u.kind)/\w'.cell? ⟨W.heap.size,2,none⟩=some (.int .i64 (j:Int))/\w'.cell? ⟨W.heap.size,3,none⟩=some (.int .i64 u.num)/\w'.cell? ⟨W.heap.size,4,none⟩=some (.int .i64 u.den)):=h_ λw' F=>by
      obtain⟨a0,a1,a2,a3,a4⟩:=HQ.out w' F;rw[K]at a2;exact⟨a0,a1,a2,a3,a4⟩
     rw[K]at q2 M;rw[K]at V6;have FF:Hid (∀w' v,v=fV a i u->Below D.heap.size D w'->R (.returned (.bool v)) w'):=h_ λw' v h F=>l.out w' v h (n.out.trans ((d.out.trans (F.mono d.out.size)).mono n.out.size))
     clear V5 K ev lw l HQ an;by_cases N:v.kind=u.kind;rotate_left
     ·have mt:(v.kind==u.kind)=false:=by simpa using N
      have pm:(v.kind !=u.kind)=true:=by simpa using N
      have HV:Hid (fV a i u=false):=h_ (by rw[V6.out,dy N];rfl);clear N V6;go_wp2_with fail;refine Free.ai 27 [(3, .det (.bool true))] (λw'=>Below D.heap.size D w') (by kernel_rfl) (by kernel_rfl) (Free.aW (λj mk r H=>by simp only[Free.find]at H;repeat' (first|cases H|split at H))) (Below.refl _ _).drew (λ_ _ h g=>h.trans (Below.mono g h.size)) ?_;simp only[eJ,dT];iterate 27 (first|(apply Free.dw (by first|exact fk rfl rfl rfl rfl|exact mQ rfl rfl rfl);simp only[Pt])|(apply Free.aC (Free.wq rfl) rfl;(intro w' z E;refine Free.au (f:=259) (args:= #[.slice (some ⟨b,m,none⟩) a.length c, .int .i64 (j:Int)]) (by clear z E;go_simp<;>rfl) ?_;refine(M.out _).mono ?_;rintro e w3 ⟨rfl,G⟩;exact⟨_,rfl,G,rfl⟩);simp only[Pt])|(apply Free.ae (Free.wq rfl) rfl;(intro w' z E;obtain⟨q0,q1,q2,q3,q4⟩:=O.out w' (d.out.trans (z.mono d.out.size));cases X.out w' z;clear E;go_light;go_simp<;>rfl);(try simp only[Pt])))
      apply Free.ax;intro L p _ _;simp only[fm,fo];have s:=h_ (FF.out L false HV.out.symm p);clear p FF;go_wp2_with fail;exact s.out
     have mt:(v.kind==u.kind)=true:=by simpa using N
     have pm:(v.kind !=u.kind)=false:=by simpa using N
     by_cases B:v.base=(j:Int)
     rotate_left
     ·have no:(v.base==(j:Int))=false:=by simpa using B
      have n8:(v.base !=(j:Int))=true:=by simpa using B
      have HV:Hid (fV a i u=false):=h_ (by rw[V6.out,dy B,R5];rfl);clear N B V6;go_wp2_with fail;refine Free.ai 27 [(3, .det (.bool true))] (λw'=>Below D.heap.size D w') (by kernel_rfl) (by kernel_rfl) (Free.aW (λj mk r H=>by simp only[Free.find]at H;repeat' (first|cases H|split at H))) (Below.refl _ _).drew (λ_ _ h g=>h.trans (Below.mono g h.size)) ?_;simp only[eJ,dT];iterate 27 (first|(apply Free.aC (Free.wq rfl) rfl;(intro w' z E;refine Free.au (f:=259) (args:= #[.slice (some ⟨b,m,none⟩) a.length c, .int .i64 (j:Int)]) (by clear z E;go_simp<;>rfl) ?_;refine(M.out _).mono ?_;rintro e w3 ⟨rfl,G⟩;exact⟨_,rfl,G,rfl⟩);simp only[Pt])|(apply Free.ae (Free.wq rfl) rfl;(intro w' z E;obtain⟨q0,q1,q2,q3,q4⟩:=O.out w' (d.out.trans (z.mono d.out.size));cases X.out w' z;clear E;go_light;go_simp<;>rfl);(try simp only[Pt])))
      apply Free.ax;intro L p _ _;simp only[fm,fo];have s:=h_ (FF.out L false HV.out.symm p);clear p FF;go_wp2_with fail;exact s.out
     have no:(v.base==(j:Int))=true:=by simpa using B
     have n8:(v.base !=(j:Int))=false:=by simpa using B
     have V7:Hid (fV a i u=(!decide ((j:Int)=(i:Int))||(decide (u.num=1)&&decide (u.den=1)))):=h_ (by rw[V6.out,dt N,dt B];rfl);clear N B V6;go_wp2_with fail;refine Free.ai 27 [(3, .det (.bool true))] (λw'=>Below D.heap.size D w') (by kernel_rfl) (by kernel_rfl) (Free.aW (λj mk r H=>by simp only[Free.find]at H;repeat' (first|cases H|split at H))) (Below.refl _ _).drew (λ_ _ h g=>h.trans (Below.mono g h.size)) ?_;simp only[eJ,dT];iterate 27 (first|(apply Free.aC (Free.wq rfl) rfl;(intro w' z E;refine Free.au (f:=259) (args:= #[.slice (some ⟨b,m,none⟩) a.length c, .int .i64 (j:Int)]) (by clear z E;go_simp<;>rfl) ?_;refine(M.out _).mono ?_;rintro e w3 ⟨rfl,G⟩;exact⟨_,rfl,G,rfl⟩);simp only[Pt])|(apply Free.ae (Free.wq rfl) rfl;(intro w' z E;obtain⟨q0,q1,q2,q3,q4⟩:=O.out w' (d.out.trans (z.mono d.out.size));cases X.out w' z;clear E;go_light;go_simp<;>rfl);(try simp only[Pt])))
     apply Free.ax;intro L p _ _;simp only[fm,fo];obtain⟨s0,s1,s2,s3,s4⟩:=O.out L (d.out.trans (p.mono d.out.size));have Y:Hid (∀w' v,v=fV a i u->w'=L->R (.returned (.bool v)) w'):=h_ λw' v h e=>FF.out w' v h (by rw[e];exact p)
     have ii:Hid (L.rangeAt W.heap.size 3 fs):=h_ (ge.out L (d.out.trans (p.mono d.out.size)));clear p FF O X q0 q1 q2 q3 q4;by_cases q:(j:Int)=(i:Int)
     rotate_left
     ·have ol:((j:Int)==(i:Int))=false:=by simpa using q
      have pi:((j:Int) !=(i:Int))=true:=by simpa using q
      have s:=h_ (Y.out L true (by rw[V7.out,dy q];rfl) rfl);clear q Y;go_wp2_with fail;exact s.out
     have ol:((j:Int)==(i:Int))=true:=by simpa using q
     have pi:((j:Int) !=(i:Int))=false:=by simpa using q
     have ip:Hid (∀ {ρ:Operand->Value} {op:Oper} {x y:Operand},op.op= .binOp .eql 32 x y 32->ρ x= .agg fs.toArray->ρ y= .agg #[.int .i64 1, .int .i64 1]->(execOp ρ op).run Tryz.prog L= .ok (.value (.bool (decide (u.num=1)&&decide (u.den=1)))) L):=h_ λho hx hy=>by rw[m7.out]at hx;exact Ex ho hx hy
     have s:=h_ (Y.out L (decide (u.num=1)&&decide (u.den=1)) (by rw[V7.out,dt q];rfl) rfl);clear q Y;obtain⟨Z,eZ⟩:=x_ ((decide (u.num=1)&&decide (u.den=1)))
     rw[<-eZ]at ip s;clear eZ V7;go_wp2_with (first
      |(refine aH (.tmp 85) ?_;refine Row.still (Free.wq rfl) (Hk.aU 32 (.tmp 85) rfl W.heap.size 3 rfl fs _ ii.out Tryz.underlying32 rfl gt.out) ?_;simp only[Pt])
      |(refine Qo 32 ?_;refine Row.still (Free.wq rfl) (ip.out rfl rfl rfl) ?_;simp only[Pt]))
     exact s.out
   ·have k1: ¬u.kind=1:=λe=>k0 (.inl e)
    have k2: ¬u.kind=2:=λe=>k0 (.inr e)
    have m5:(u.kind==1)=false:=by simp[k1]
    have m6:(u.kind !=1)=true:=by simp[k1]
    have qr:(u.kind==2)=false:=by simp[k2]
    have ro:(u.kind !=2)=true:=by simp[k2]
    have J:=h_ (l.out wr false (by rw[V3.out,dy k1,dy k2];rfl) (n.out.trans (f9.out.mono n.out.size)));clear V3 k0 k1 k2 l;go_wp2_with fail;exact J.out
theorem tC{p:Nat->Bool}{n k:Nat}(h:(List.range k).all p=true)(b:p k=true)(a:k<n):(List.range (k+1)).all p=true:=by rw[RX,RZ,h];simp[b]
theorem tB{p:Nat->Bool}{n k:Nat}(a:k<n)(b:p k=false):(List.range n).all p=false:=by rw[List.all_eq_false];exact⟨k,R2.2 a,by simp[b]⟩
def Mx(us:List Un)(i:Nat):Bool:=match us[i]? with|some u=>fV us i u|none=>true
theorem My{a:List Un}{i:Nat}{u:Un}(h:a[i]? =some u):Mx a i=fV a i u:=by unfold Mx;rw[h]
def zZ(us:List Un)(W:World)(e:Ending)(w':World):Prop:=(∃i:Int,e= .returned (.tuple #[.int .i64 i, .bool (tR us)]))/\Below W.heap.size W w'
set_option maxHeartbeats 1000000 in
theorem Pb(A:Option Addr)(c:Nat)(a:List Un)(W:World)(E:SL W 5 lp A a)(D:a.length<=c)(z:a.length<=1000):Calls Tryz.prog 155 #[.slice A a.length c] W (zZ a W):=by
 obtain⟨R,r⟩:=x_ (zZ a W)
 rw[<-r];have g:Hid (∀f i v,v=(List.range a.length).all (Mx a)->Below W.heap.size W f->R (.returned (.tuple #[.int .i64 i, .bool v])) f):=h_ λf i v h t=>by rw[r,h];exact⟨⟨i,rfl⟩,t⟩
 clear r;have F:Hid (∀(i:Nat) u f,a[i]? =some u->Below W.heap.size W f->Calls Tryz.prog 221 #[.slice A a.length c, .int .i64 (i:Int)] f λe B=>e= .returned (.bool (fV a i u))/\Below f.heap.size f B):=h_ λi u f h t=>Pm A c a i u f h (E.below t (aL _)) D z
 have G:=h_ z;clear E D z;go_enter Tryz.func155,Tryz.ntmps155;go_wp2_with fail
 go_loopw [7] (λv wr=> ∃k:Nat,v= .int .i64 (k:Int)/\k<=a.length/\Hid ((List.range k).all (Mx a)=true)/\Below W.heap.size W wr) (λv _=>(a.length:Int).toNat- (RowKit.intOf v).toNat)
 case atStart=>exact⟨0,rfl,gu _,h_ rfl,Below.refl _ _⟩
 case round=>
  obtain⟨k,rfl,w,l,d⟩:=hrel;have H:(k:Int)<=1000:=by have:=G.out;omega
  rcases pC w with b|b
  ·have y:(k:Int)<(a.length:Int):=by omega
   obtain⟨u,s⟩:∃x,a[k]? =some x:=⟨_,eH b⟩
   have j:=h_ (F.out k u wr s d);have q:=h_ (My s);have n:=h_ d;obtain⟨v,C⟩:=x_ (fV a k u)
   rw[<-C]at j q;clear s d C w;go_wp2_with fail;refine j.out.mono ?_;rintro e I ⟨rfl,o⟩;have m:=h_ (n.out.trans (o.mono n.out.size));clear o j;cases v with
   |true=>
    go_wp2_with fail
    go_roundw
    case rel=>exact⟨k+1,rfl,b,h_ (tC l.out q.out b),m.out⟩
    case measure=>simp[RowKit.intOf];omega
   |false=>have p:=h_ (g.out I (k:Int) false (tB b q.out).symm m.out);clear g;go_wp2_with fail;exact p.out
  ·have y: ¬(k:Int)<(a.length:Int):=by omega
   have p:=h_ (g.out wr (-1) true (by rw[<-b];exact l.out.symm) d);clear d l g w;go_wp2_with fail;exact p.out
end Go.Proofs.YtkmbmfengcdmoaaGreatDoor
namespace Go.Cv
open Go Go.Cs Go.Opn Go.RowKit
structure zY where
 kind:Int
 role:Int
 rq:Int
 dest:Int
 unit:Int
 num:Int
 den:Int
def ln(a:zY):List Value:= [.int .i64 a.kind, .int .i64 a.role, .int .i64 a.rq, .int .i64 a.dest, .int .i64 a.unit, .int .i64 a.num, .int .i64 a.den]
abbrev Kl:=mT×(Option Addr×Nat)
def oz(k:Kl):List Value:=nA k.1 (.slice k.2.1 k.1.start.length k.2.2)
structure NV where
 aj:Int
 aE:List Int
 bP:List Un
 bQ:List zY
 cls:List mT
 days:Int
 off:List Int
structure cZ where
 aj:Int
 aE:List Int
 bP:List Un
 bQ:List zY
 iH:List Kl
 days:Int
 off:List Int
 hA:Option Addr
 hc:Nat
 uA:Option Addr
 uc:Nat
 aA:Option Addr
 ac:Nat
 kA:Option Addr
 kc:Nat
 oA:Option Addr
 oc:Nat
def cZ.iU(c:cZ):NV:=⟨c.aj,c.aE,c.bP,c.bQ,c.iH.map Prod.fst,c.days,c.off⟩
def cD(c:cZ):List Value:= [.int .i64 c.aj, .slice c.hA c.aE.length c.hc, .slice c.uA c.bP.length c.uc, .slice c.aA c.bQ.length c.ac, .slice c.kA c.iH.length c.kc, .int .i64 c.days, .slice c.oA c.off.length c.oc]
theorem Au(c:cZ):∀v∈cD c,v.oneCell'=true:=λv hv=>by
 simp only[cD,lC,DR,DW]at hv;rcases hv with rfl|rfl|rfl|rfl|rfl|rfl|rfl<;>rfl
structure dV (w:World) (c:cZ):Prop where
 h:SL w 1 Cs.encI c.hA c.aE
 u:SL w 5 lp c.uA c.bP
 a:SL w 7 ln c.aA c.bQ
 k:SL w 16 oz c.kA c.iH
 o:SL w 1 Cs.encI c.oA c.off
 st:∀k∈c.iH,SL w 2 fX k.2.1 k.1.start
theorem dV.below{w w':World}{c:cZ}{B:Nat}(h:dV w c)(d:Below B w w')(b:w.heap.size<=B):dV w' c:=
 ⟨h.h.below d b,h.u.below d b,h.a.below d b,h.k.below d b,h.o.below d b,λk e=>(h.st k e).below d b⟩
structure lk (c:cZ):Prop where
 h:c.aE.length<=9223372036854775807
 u:c.bP.length<=9223372036854775807
 a:c.bQ.length<=9223372036854775807
 k:c.iH.length<=9223372036854775807
 o:c.off.length<=9223372036854775807
 uc:c.bP.length<=c.uc
 st:∀k∈c.iH,k.1.start.length<=9223372036854775807
def ja(n:Nat)(i:Int):Bool:=decide (0<=i)&&decide (i<(n:Int))
def rB(num den:Int):Bool:=decide (0<num)&&mZ num den
def lz(acs:List zY)(i:Int):Bool:=ja acs.length i&&(match acs[i.toNat]? with|some a=>decide (a.kind=1)&&decide (a.role= -1)|none=>false)
end Go.Cv
namespace Go.Proofs.YtkmbmfengcdmoaaGreatDoor
open Go.RowKit Go.W32 Go.ay Go.Cs Go.Lib Go.Opn Go.Mg Go.Cv
structure SA (W W1:World) (c:cZ) (cs:List Value):Prop where
 row:Row W1 W.heap.size 27 cs
 below:Below W.heap.size W W1
 e:W.alloc (.cells cs.toArray 27)=W1
 cs:cs=cD c
theorem uh(W:World)(c:cZ):∃a cs,SA W a c cs:=⟨_,_,Row.new _ _ _,(Below.refl _ _).alloc (aL _) _,rfl,rfl⟩
structure jK (w:World) (b:Nat) (c:cZ):Prop where
 k0:w.cell? ⟨b,0,none⟩=some (.int .i64 c.aj)
 k1:w.cell? ⟨b,1,none⟩=some (.slice c.hA c.aE.length c.hc)
 k2:w.cell? ⟨b,2,none⟩=some (.slice c.uA c.bP.length c.uc)
 k3:w.cell? ⟨b,3,none⟩=some (.slice c.aA c.bQ.length c.ac)
 k4:w.cell? ⟨b,4,none⟩=some (.slice c.kA c.iH.length c.kc)
 k5:w.cell? ⟨b,5,none⟩=some (.int .i64 c.days)
 k6:w.cell? ⟨b,6,none⟩=some (.slice c.oA c.off.length c.oc)
theorem jK.of{w:World}{b:Nat}{T:TypeId}{c:cZ}(h:Row w b T (cD c)):jK w b c:=⟨h.at rfl,h.at rfl,h.at rfl,h.at rfl,h.at rfl,h.at rfl,h.at rfl⟩
theorem ig(cs:List Value)(h:cs.length=7):(Tryz.prog.info? 27).map (·.size)=some cs.length:=by rw[h];kernel_rfl
theorem wP(c:cZ)(i:Int)(W:World):Calls Tryz.prog 161 #[.agg (cD c).toArray, .int .i64 i] W λe w'=>e= .returned (.bool (ja c.aE.length i))/\Below W.heap.size W w':=by
 obtain⟨R,n⟩:=x_ (λe w'=>e= .returned (.bool (ja c.aE.length i))/\Below W.heap.size W w':Ending->World->Prop)
 rw[<-n];have a:Hid (∀w' v,v=ja c.aE.length i->Below W.heap.size W w'->R (.returned (.bool v)) w'):=h_ λw' v h g=>by rw[n,h];exact⟨rfl,g⟩
 clear n;obtain⟨l,y,j⟩:=uh W c;have p:=jK.of (T:=27) (b:=W.heap.size) (w:=l) (c:=c) (by rw[<-j.cs];exact j.row);obtain⟨q,z,r,s,t,u,x⟩:=p;have m:=h_ j.e;have d:=h_ j.below;rw[<-j.cs];clear j q r s t u x;by_cases h:0<=i
 ·have g:decide (0<=i)=true:=dt h;by_cases o:i<(c.aE.length:Int)
  ·have f:decide (i<(c.aE.length:Int))=true:=dt o;have k:=h_ (a.out l true (by unfold ja;rw[g,f];rfl) d.out);clear a;go_enter Tryz.func161,Tryz.ntmps161;go_wp2_with (simp only[m.out])
   exact k.out
  ·have f:decide (i<(c.aE.length:Int))=false:=dy o;have k:=h_ (a.out l false (by unfold ja;rw[g,f];rfl) d.out);clear a;go_enter Tryz.func161,Tryz.ntmps161;go_wp2_with (simp only[m.out])
   exact k.out
 ·have g:decide (0<=i)=false:=dy h;have k:=h_ (a.out l false (by unfold ja;rw[g];rfl) d.out);clear a;go_enter Tryz.func161,Tryz.ntmps161;go_wp2_with (simp only[m.out])
  exact k.out
theorem sV(W:World):Calls Tryz.prog 159 #[] W λe w'=>e= .returned (.agg #[.int .i64 0, .int .i64 1])/\Below W.heap.size W w':=by go_enter Tryz.func159,Tryz.ntmps159;go_wp2_with fail;exact bodyPost_ret (v:= .agg #[.int .i64 0, .int .i64 1]) (by simp[results,Tryz.results159,go_sem]) rfl ⟨rfl,(Below.refl _ _).alloc (aL _) _⟩
theorem Ds(num a:Int)(W:World):Calls Tryz.prog 160 #[.agg #[.int .i64 num, .int .i64 a]] W λe w'=>e= .returned (.bool (rB num a))/\Below W.heap.size W w':=by
 obtain⟨R,p⟩:=x_ (λe w'=>e= .returned (.bool (rB num a))/\Below W.heap.size W w':Ending->World->Prop)
 rw[<-p];have b:Hid (∀w' v,v=rB num a->Below W.heap.size W w'->R (.returned (.bool v)) w'):=h_ λw' v h w=>by rw[p,h];exact⟨rfl,w⟩
 clear p;obtain⟨d,c⟩:=x_ ([.int .i64 num, .int .i64 a]:List Value)
 obtain⟨i,m⟩:=x_ (W.alloc (.cells d.toArray 32))
 have g:Row i W.heap.size 32 d:=by rw[m];exact Row.new _ _ _
 have f:Hid (Below W.heap.size W i):=h_ (by rw[m];exact(Below.refl _ _).alloc (aL _) _);have r:Hid (W.alloc (.cells d.toArray 32)=i):=h_ m.symm;have z:=g.at (show d[0]? =some (.int .i64 num) by rw[c];rfl);have u:=h_ (g.range λj v x=>(show d[0+j]? =some v by rw[nW];exact x));have t:=h_ (rL d (by rw[c];rfl));have l:=h_ (Dv num a i);rw[show(#[.int .i64 num, .int .i64 a]:Array Value)=d.toArray by rw[c]]at l⊢;obtain⟨V,q⟩:=x_ (mZ num a)
 have s:Hid (rB num a=(decide (0<num)&&V)):=h_ (by unfold rB;rw[q]);rw[<-q]at l;clear m g c q;by_cases h:0<num
 ·have o:Hid (V=rB num a):=h_ (by rw[s.out,dt h];rfl);go_enter Tryz.func160,Tryz.ntmps160;go_wp2_with (first
   |(simp only[r.out])
   |(refine aH (.tmp 1) ?_;refine Row.still (Free.wq rfl) (Hk.aU 32 (.tmp 1) rfl W.heap.size 0 rfl d _ u.out Tryz.underlying32 rfl t.out) ?_;simp only[Pt]))
  refine l.out.mono ?_;rintro e y ⟨rfl,k⟩;have n:=h_ (b.out y V o.out (f.out.trans (k.mono f.out.size)));clear k l b;go_wp2_with fail;exact n.out
 ·have n:=h_ (b.out i false (by rw[s.out,dy h];rfl) f.out);clear b;go_enter Tryz.func160,Tryz.ntmps160;go_wp2_with (simp only[r.out])
  exact n.out
end Go.Proofs.YtkmbmfengcdmoaaGreatDoor
