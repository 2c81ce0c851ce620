/- Package ratio: whether a ratio is valid. No condition. -/
import Derived.Test.YtkmbmfengcdmoaaGreatDoorZAJ
import Derived.Test.YtkmbmfengcdmoaaGreatDoorZAK
import Derived.Test.YtkmbmfengcdmoaaGreatDoorZAH
set_option linter.all false
set_option maxRecDepth 100000
namespace Go.Proofs.YtkmbmfengcdmoaaGreatDoor
open Go.RowKit Go.W32 Go.ay Go.Cs Go.Lib Go.Opn

theorem fi{w:World}{b off k:Nat}{l:List Int}{x:Int}(h:SL w 1 Cs.encI (some ⟨b,off,none⟩) l)(hk:l[k]? =some x):w.cell? ⟨b,off+k,none⟩=some (.int .i64 x):=by
 obtain⟨b',o',e,hc⟩:=h.at_ hk;injection e with e;injection e with e1 e2;subst e1 e2
 have:=hc 0 (.int .i64 x) rfl
 rwa[show off+(k*1+0)=off+k by omega]at this
theorem cG{α:Type}{ec:α->List Value}{sz:Nat}{w:World}{A:Option Addr}{l:List α}(h:SL w sz ec A l)(hne:l≠ []):∃b off,A=some ⟨b,off,none⟩:=by obtain⟨b,off,e,_⟩:=h.cells hne;exact⟨b,off,e⟩
theorem Gs{α:Type}{a b:List α}{k:Nat}{x y:α}(ha:a[k]? =some x)(hb:b[k]? =some y)(h:a.take k=b.take k)(e:x=y):a.take (k+1)=b.take (k+1):=by rw[zX,zX,ha,hb,h,e]
theorem Rm{α:Type}{a b:List α}{k:Nat}{x y:α}(ha:a[k]? =some x)(hb:b[k]? =some y)(e:x≠y):a≠b:=λh=>by
 rw[h,hb]at ha;exact e (PU ha.symm)
theorem dq{α:Type}{ec:α->List Value}{sz:Nat}{w:World}{b off k:Nat}{l:List α}{x:α}(h:SL w sz ec (some ⟨b,off,none⟩) l)(hk:l[k]? =some x):w.rangeAt b (off+k*sz) (ec x):=λj v hj=>by
 obtain⟨b',o',e,hc⟩:=h.at_ hk;injection e with e;injection e with e1 e2;subst e1 e2
 have:=hc j v hj;rw[<-Nat.add_assoc]at this;exact this
theorem lI{α:Type}{f:α->Bool}{l:List α}{k:Nat}{x:α}(hx:l[k]? =some x)(h:(l.take k).all f=true)(hf:f x=true):(l.take (k+1)).all f=true:=by rw[zX,hx,Option.toList_some,RZ,h];simp[hf]
theorem il{α:Type}{f:α->Bool}{l:List α}{k:Nat}{x:α}(hx:l[k]? =some x)(hf:f x=false):l.all f=false:=by rw[List.all_eq_false];exact⟨x,ue hx,by simp[hf]⟩
theorem Qn{P:Program}{ops:Array Oper}{rest:List Oper}{a:Act}{Q:Exit->Act->World->Prop}(x:Operand){t:TypeId}{n:Nat}{d:Option Tmp}{ty:TypeId}{ps:String}{af:Array Edge}{g:Option (Nat×Bool)}{w:World}
  (h:wpList P ops Q (⟨d, .buildSlice t n #[(0,x)],ty,ps,af,g⟩::rest) a w):wpList P ops Q (⟨d, .buildSlice t n #[(0,x)],ty,ps,af,g⟩::rest) a w:=h
theorem v8{P:Program}{ops:Array Oper}{rest:List Oper}{a:Act}{Q:Exit->Act->World->Prop}(s x:Operand){t:TypeId}{d:Option Tmp}{ty:TypeId}{ps:String}{af:Array Edge}{g:Option (Nat×Bool)}{w:World}
  (h:wpList P ops Q (⟨d, .call {callee:= .builtin .append,args:= #[s,x],argTypes:= #[t,t]},ty,ps,af,g⟩::rest) a w):wpList P ops Q (⟨d, .call {callee:= .builtin .append,args:= #[s,x],argTypes:= #[t,t]},ty,ps,af,g⟩::rest) a w:=h
end Go.Proofs.YtkmbmfengcdmoaaGreatDoor

namespace Go.Cv
def mZ(num den:Int):Bool:=decide (1<=den/\den<=1000000/\ -1000000000000<=num/\num<=1000000000000)&&(Nat.gcd num.natAbs den.natAbs==1)
end Go.Cv
namespace Go.Proofs.YtkmbmfengcdmoaaGreatDoor
open Go.RowKit Go.W32 Go.ay Go.Cs Go.Lib Go.Opn Go.Mg Go.Cv

theorem NG{k:IntKind}{a b:Int}(h:a=b):Ending.returned (.int k a)= .returned (.int k b):=by rw[h]
theorem L9(n:Int)(W:World)(h0: -9223372036854775808<=n)(h1:n<=9223372036854775807):Calls Tryz.prog 261 #[.int .i64 n] W λe w'=>e= .returned (.int .u64 (n.natAbs:Int))/\W=w':=by
 by_cases hn:n<0
 ·have e1:IntKind.u64.wrap (-(n+1))= -(n+1):=IntWalk.u64_in _ (by omega);have e2: -(n+1)+1=(n.natAbs:Int):=by omega
  have e3:IntKind.u64.wrap (-(n+1)+1)=(n.natAbs:Int):=by rw[e2];exact IntWalk.u64_in _ (by omega)
  have E:Hid (IntKind.u64.wrap (IntKind.u64.wrap (-(n+1))+1)=(n.natAbs:Int)):=h_ (by rw[e1,e3]);have E2:Hid (IntKind.u64.wrap (-(n+1)+1)=(n.natAbs:Int)):=h_ e3;clear e1 e2 e3;go_enter Tryz.func261,Tryz.ntmps261;go_wp2_with fail;go_ret;exact⟨NG (by first|exact E.out|exact E2.out|omega),rfl⟩
 ·have e1:IntKind.u64.wrap n=n:=IntWalk.u64_in _ (by omega);have E:Hid (n=(n.natAbs:Int)):=h_ (by omega);go_enter Tryz.func261,Tryz.ntmps261;go_wp2_with fail;go_ret;exact⟨NG E.out,rfl⟩
def N0(W:World)(l:List Nat)(u v:Value)(wr:World):Prop:=∃(k g:Nat),u= .int .u64 (g:Int)/\v= .int .i64 (k:Int)/\k<=l.length/\g=(l.take k).foldl Nat.gcd 0/\g<18446744073709551616/\Below W.heap.size W wr
def NZ(W:World)(G:Nat)(u v:Value)(wr:World):Prop:=∃(g n:Nat),u= .int .u64 (g:Int)/\v= .int .u64 (n:Int)/\Nat.gcd g n=G/\g<18446744073709551616/\n<18446744073709551616/\Below W.heap.size W wr
def Av(n:Nat):List Value:= [.int .u64 (n:Int)]
theorem E4{l:List Nat}{k x:Nat}(h:l[k]? =some x):(l.take (k+1)).foldl Nat.gcd 0=Nat.gcd ((l.take k).foldl Nat.gcd 0) x:=by rw[zX,h,Option.toList_some,PA];rfl
set_option maxHeartbeats 1000000 in
theorem Lv(A:Option Addr)(c:Nat)(l:List Nat)(W:World)(hl:SL W 1 Av A l)(hb:∀x∈l,x<18446744073709551616)(hn:l.length<=1000):Calls Tryz.prog 260 #[.slice A l.length c] W λe w'=>e= .returned (.int .u64 ((l.foldl Nat.gcd 0:Nat):Int))/\Below W.heap.size W w':=by
 obtain⟨R,eR⟩:=x_ (λe w'=>e= .returned (.int .u64 ((l.foldl Nat.gcd 0:Nat):Int))/\Below W.heap.size W w':Ending->World->Prop)
 rw[<-eR];have FIN:Hid (∀w' (g:Nat),g=l.foldl Nat.gcd 0->Below W.heap.size W w'->R (.returned (.int .u64 (g:Int))) w'):=h_ λw' g h hb=>by rw[eR,h];exact⟨rfl,hb⟩
 clear eR;have HL:=h_ hl;have HB:=h_ hb;have HST:Hid (N0 W l (.int .u64 0) (.int .i64 0) W):=h_ ⟨0,0,rfl,rfl,gu _,rfl,by decide,Below.refl _ _⟩;clear hl hb;go_enter Tryz.func260,Tryz.ntmps260;go_wp2_with fail
 go_loopw [3,8] (λu v wr=>N0 W l u v wr) (λ_ v _=>(l.length:Int).toNat- (RowKit.intOf v).toNat)
 case atStart=>exact HST.out
 case round=>
  clear HST;obtain⟨k,g,rfl,rfl,hk,hg,hgb,hbw⟩:=hrel;rcases pC hk with hkl|hkl
  ·have hki:(k:Int)<(l.length:Int):=by omega
   have hkb:(k:Int)<=1000:=by omega
   obtain⟨b,off,rfl⟩:=cG HL.out (by rintro rfl;simp at hkl);obtain⟨x,ex⟩:∃x,l[k]? =some x:=⟨_,eH hkl⟩
   have hr:=dq (HL.out.below hbw (aL _)) ex;have cx:wr.cell? ⟨b,off+k,none⟩=some (.int .u64 (x:Int)):=by have h:=hr 0 (.int .u64 (x:Int)) rfl;rwa[KJ,KO]at h
   have hxb:=HB.out x (ue ex);have NEW:Hid (∀w',Below wr.heap.size wr w'->N0 W l (.int .u64 ((Nat.gcd g x:Nat):Int)) (.int .i64 ((k:Int)+1)) w'):=h_ λw' hb=>⟨k+1,Nat.gcd g x,rfl,rfl,hkl,by rw[E4 ex, <-hg],by
    rcases Nat.eq_zero_or_pos g with h|h
    ·rw[h,Nat.gcd_zero_left];exact hxb
    ·exact Nat.lt_of_le_of_lt (Nat.gcd_le_left x h) hgb,hbw.trans (hb.mono hbw.size)⟩
   have HS2:Hid (NZ wr (Nat.gcd g x) (.int .u64 (g:Int)) (.int .u64 (x:Int)) wr):=h_ ⟨g,x,rfl,rfl,rfl,hgb,hxb,Below.refl _ _⟩;obtain⟨G,eG⟩:=x_ (Nat.gcd g x)
   rw[<-eG]at NEW HS2;clear eG hr ex hg hgb hbw hk hxb;go_wp2_with fail;generalize wr=wo at*
   go_loopw [3,5] (λu v wi=>NZ wo G u v wi) (λ_ v _=>(RowKit.intOf v).toNat)
   case atStart=>exact HS2.out
   case round=>
    clear HS2;obtain⟨g2,n,rfl,rfl,hG,hg2,hn2,hbi⟩:=hrel;by_cases hz:n=0
    ·have hz0:((n:Int)==0)=true:=by simp[hz]
     have hzn:((n:Int) !=0)=false:=by simp[hz]
     have hGg:G=g2:=by rw[<-hG,hz,Nat.gcd_zero_right]
     have HN:=h_ (NEW.out wr hbi);rw[hGg]at HN;clear hz hG hbi hGg NEW;go_wp2_with fail
     go_roundw
     case rel=>exact HN.out
     case measure=>simp[RowKit.intOf];omega
    ·have hz0:((n:Int)==0)=false:=by simp[hz]
     have hzn:((n:Int) !=0)=true:=by simp[hz]
     have hzi: ¬(n:Int)=0:=by omega
     have t2:(g2:Int).tmod (n:Int)=((g2 % n:Nat):Int):=by rw[Int.tmod_eq_emod_of_nonneg (by omega)];omega
     have t4:IntKind.u64.wrap (((g2 % n:Nat):Int))=((g2 % n:Nat):Int):=IntWalk.u64_in _ (by have:=M3 g2 (Nat.pos_of_ne_zero hz);omega);have hlt:=M3 g2 (Nat.pos_of_ne_zero hz);have NXT:Hid (∀w',Below wr.heap.size wr w'->NZ wo G (.int .u64 (n:Int)) (.int .u64 ((g2 % n:Nat):Int)) w'):=h_ λw' hb=>⟨n,g2 % n,rfl,rfl,by rw[<-hG,Nat.gcd_comm g2 n,Nat.gcd_rec n g2,Nat.gcd_comm],hn2,by omega,hbi.trans (hb.mono hbi.size)⟩
     obtain⟨q,eq⟩:=x_ (g2 % n)
     rw[<-eq]at t2 t4 NXT hlt;have HLT:=h_ hlt;clear eq hG hbi hg2 hlt;go_wp2_with fail;refine Free.ai 6 [] (λw'=>Below wr.heap.size wr w') (by kernel_rfl) (by kernel_rfl) (Free.aW (λj mk r hf=>by simp only[Free.find]at hf;repeat' (first|cases hf|split at hf))) (Below.refl _ _).drew (λ_ _ h g=>h.trans (Below.mono g h.size)) ?_;simp only[eJ,dT];iterate 6 (apply Free.ae (Free.wq rfl) rfl;(intro w' hB hA;obtain qB:=hB;clear hA;go_light;go_simp<;>rfl);(try simp only[Pt]))
     apply Free.ax;intro w6 hw6 _ _;have HN:=h_ (NXT.out w6 hw6);simp only[fm,fo];clear hw6 NXT NEW;go_wp2_with fail
     go_roundw
     case rel=>exact HN.out
     case measure=>have:=HLT.out;simp[RowKit.intOf];omega
  ·have hki: ¬(k:Int)<(l.length:Int):=by omega
   have HF:=h_ (FIN.out wr g (by rw[hg,np (by omega)]) hbw);clear hg hbw hk hkl;go_wp2_with fail;exact HF.out
theorem QY(W:World)(l:List Nat):SL (W.alloc (.cells (l.flatMap Av).toArray 228)) 1 Av (some ⟨W.heap.size,0,none⟩) l:=
 Apl.cO (λ_=>rfl) (show Row _ _ _ _ from Row.new _ _ _) (λj u hj=>by simpa using hj)
theorem Rj{x y:Value}{a b:Nat}{K:List (Nat×Free.gN)}(hK:K= [(2, .det x),(5, .det y),(6, .ind (λb=> .slice (some ⟨b,0,none⟩) 2 2) (λg w=>SL w 1 Av (some ⟨g,0,none⟩) [a,b]))]):Free.dm K:=by
 subst hK;intro j mk r hf c w w' hr hg;simp only[Free.find]at hf
 repeat' split at hf
 all_goals first|(cases hf;done)|skip
 injection hf with hf;injection hf with e1 e2;subst e2;exact SL.below hr hg (aL _)
theorem Om{a:Act}{o:Oper}{x y:Nat}{w:World}(h:(execOp a.eval o).run Tryz.prog w= .ok (.value (.slice (some ⟨w.heap.size,0,none⟩) 2 2)) (w.alloc (.cells ([x,y].flatMap Av).toArray 228))):
  Free.dC Tryz.prog o a.eval w λu w2=>Free.Grow w w2/\∃b,u= .slice (some ⟨b,0,none⟩) 2 2/\SL w2 1 Av (some ⟨b,0,none⟩) [x,y]:=
 Free.cq h ⟨Free.Grow.alloc _ _,w.heap.size,rfl,QY w [x,y]⟩
theorem vd(n:Int)(W:World)(h0: -9223372036854775808<=n)(h1:n<=9223372036854775807):Calls Tryz.prog 261 #[.int .i64 n] W λe w'=>e= .returned (.int .u64 (n.natAbs:Int))/\Below W.heap.size W w':=
 (L9 n W h0 h1).mono λ_ _ ⟨h1,h2⟩=>⟨h1,by subst h2;exact Below.refl _ _⟩
set_option maxHeartbeats 1000000 in
theorem Dv(num den:Int)(W:World):Calls Tryz.prog 222 #[.agg #[.int .i64 num, .int .i64 den]] W λe w'=>e= .returned (.bool (mZ num den))/\Below W.heap.size W w':=by
 obtain⟨R,eR⟩:=x_ (λe w'=>e= .returned (.bool (mZ num den))/\Below W.heap.size W w':Ending->World->Prop)
 rw[<-eR];have FIN:Hid (∀w' v,v=mZ num den->Below W.heap.size W w'->R (.returned (.bool v)) w'):=h_ λw' v h hb=>by rw[eR,h];exact⟨rfl,hb⟩
 clear eR;obtain⟨W1,e1⟩:=x_ (W.alloc (.cells #[.int .i64 num, .int .i64 den] 32))
 have hr1:Row W1 W.heap.size 32 [.int .i64 num, .int .i64 den]:=by rw[e1];exact Row.new _ _ _
 have hb1:Below W.heap.size W W1:=by rw[e1];exact(Below.refl _ _).alloc (aL _) _
 have c0:W1.cell? ⟨W.heap.size,0,none⟩=some (.int .i64 num):=hr1.at rfl;have c1:W1.cell? ⟨W.heap.size,1,none⟩=some (.int .i64 den):=hr1.at rfl;have HC:Hid (∀w',Below W1.heap.size W1 w'->w'.cell? ⟨W.heap.size,0,none⟩=some (.int .i64 num)/\w'.cell? ⟨W.heap.size,1,none⟩=some (.int .i64 den)):=h_ λw' hb=>⟨(hr1.below hb hr1.lt).at rfl,(hr1.below hb hr1.lt).at rfl⟩
 have E1:Hid (W.alloc (.cells #[.int .i64 num, .int .i64 den] 32)=W1):=h_ e1.symm;have HB1:=h_ hb1;clear e1 hr1 hb1;by_cases b1:1<=den;rotate_left
 ·have HF:=h_ (FIN.out W1 false (by unfold mZ;rw[dy (by omega)];rfl) HB1.out);clear FIN;go_enter Tryz.func222,Tryz.ntmps222;go_wp2_with (simp only[E1.out])
  exact HF.out
 by_cases b2:den<=1000000;rotate_left
 ·have HF:=h_ (FIN.out W1 false (by unfold mZ;rw[dy (by omega)];rfl) HB1.out);clear FIN;go_enter Tryz.func222,Tryz.ntmps222;go_wp2_with (simp only[E1.out])
  exact HF.out
 by_cases b3: -1000000000000<=num;rotate_left
 ·have HF:=h_ (FIN.out W1 false (by unfold mZ;rw[dy (by omega)];rfl) HB1.out);clear FIN;go_enter Tryz.func222,Tryz.ntmps222;go_wp2_with (simp only[E1.out])
  exact HF.out
 by_cases b4:num<=1000000000000;rotate_left
 ·have HF:=h_ (FIN.out W1 false (by unfold mZ;rw[dy (by omega)];rfl) HB1.out);clear FIN;go_enter Tryz.func222,Tryz.ntmps222;go_wp2_with (simp only[E1.out])
  exact HF.out
 have HV:Hid (mZ num den=(Nat.gcd num.natAbs den.natAbs==1)):=h_ (by unfold mZ;rw[dt ⟨b1,b2,b3,b4⟩];rfl);have CM1:=h_ (λw=>vd num w (by omega) (by omega));have CM2:=h_ (λw=>vd den w (by omega) (by omega));have hx:num.natAbs<18446744073709551616:=by omega
 have hy:den.natAbs<18446744073709551616:=by omega
 obtain⟨x,exx⟩:=x_ num.natAbs
 obtain⟨y,eyy⟩:=x_ den.natAbs
 rw[<-exx]at CM1 HV hx;rw[<-eyy]at CM2 HV hy;have HXY:=h_ (And.intro hx hy);clear exx eyy c0 c1 hx hy;have c0:=(HC.out W1 (Below.refl _ _)).1;have c1:=(HC.out W1 (Below.refl _ _)).2;go_enter Tryz.func222,Tryz.ntmps222;go_wp2_with (simp only[E1.out])
 refine Free.ai 7 [(2, .det (.int .u64 (x:Int))),(5, .det (.int .u64 (y:Int))),(6, .ind (λb=> .slice (some ⟨b,0,none⟩) 2 2) (λg w=>SL w 1 Av (some ⟨g,0,none⟩) [x,y]))] (λw'=>Below W1.heap.size W1 w') (by kernel_rfl) (by kernel_rfl) (Rj rfl) (Below.refl _ _).drew (λ_ _ h g=>h.trans (Below.mono g h.size)) ?_;simp only[eJ,dT];iterate 7 (first|(apply Free.aC (Free.wq rfl) rfl;(intro w' hB hA;refine Free.au (f:=261) (args:= #[.int .i64 num]) (by clear hB hA;go_simp<;>rfl) ?_;refine(CM1.out _).mono ?_;rintro e w3 ⟨rfl,hb3⟩;exact⟨_,rfl,hb3,rfl⟩);simp only[Pt])|(apply Free.aC (Free.wq rfl) rfl;(intro w' hB hA;refine Free.au (f:=261) (args:= #[.int .i64 den]) (by clear hB hA;go_simp<;>rfl) ?_;refine(CM2.out _).mono ?_;rintro e w3 ⟨rfl,hb3⟩;exact⟨_,rfl,hb3,rfl⟩);simp only[Pt])|(apply Free.ae rfl rfl;(intro w' hB hA;cases HC.out w' hB;clear hA;go_light;go_simp<;>rfl);(try simp only[Pt]))|(apply Free.aR rfl rfl;(intro w' hB hA;refine Om ?_;clear hB hA;go_light;go_simp<;>rfl)))
 intro b6;simp only[Pt];apply Free.ax;intro w5 hw5 _ hh;have hs6:=hh _ dH;dsimp only at hs6;have CD:=h_ (Lv (some ⟨b6,0,none⟩) 2 [x,y] w5 hs6 (by intro z hz;have:=HXY.out;simp at hz;omega) (by simp));rw[show [x,y].length=2 from rfl,show [x,y].foldl Nat.gcd 0=Nat.gcd x y from by simp]at CD;have HB5:=h_ (HB1.out.trans (hw5.mono HB1.out.size));simp only[fm,fo];clear hs6 hw5 hh HC c0 c1 CM1 CM2;obtain⟨g,eg⟩:=x_ (Nat.gcd x y)
 rw[<-eg]at CD HV;clear eg;go_wp2_with fail;refine CD.out.mono ?_;rintro e w7 ⟨rfl,hb7⟩;have HF:=h_ (FIN.out w7 ((g:Int)==1) (by rw[HV.out,Px];simp;omega) (HB5.out.trans (hb7.mono HB5.out.size)));clear hb7 CD HV FIN;go_wp2_with fail;exact HF.out
end Go.Proofs.YtkmbmfengcdmoaaGreatDoor
