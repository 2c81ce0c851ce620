/- Package ratio: whether a ratio is valid. No condition. -/
import Derived.Test.YtkmbmfengcdmoaaGreatDoorZAJ
import Derived.Test.YtkmbmfengcdmoaaGreatDoorZAK
import Derived.Test.YtkmbmfengcdmoaaGreatDoorZAH
set_option linter.all false
set_option maxRecDepth 100000
namespace Go.Proofs.YtkmbmfengcdmoaaGreatDoor
open Go.RowKit Go.W32 Go.ay Go.Cs Go.Lib Go.Opn

theorem fi{w:World}{b off k:Nat}{l:List Int}{x:Int}(h:SL w 1 Cs.encI (some ⟨b,off,none⟩) l)(f:l[k]? =some x):w.cell? ⟨b,off+k,none⟩=some (.int .i64 x):=by
 obtain⟨g,i,e,d⟩:=h.at_ f;injection e with e;injection e with a c;subst a c
 have:=d 0 (.int .i64 x) rfl
 rwa[show off+(k*1+0)=off+k by omega]at this
theorem cG{α:Type}{ec:α->List Value}{c:Nat}{w:World}{A:Option Addr}{l:List α}(h:SL w c ec A l)(a:l≠ []):∃b off,A=some ⟨b,off,none⟩:=by obtain⟨b,off,e,_⟩:=h.cells a;exact⟨b,off,e⟩
theorem dq{α:Type}{ec:α->List Value}{a:Nat}{w:World}{b off k:Nat}{l:List α}{x:α}(h:SL w a ec (some ⟨b,off,none⟩) l)(i:l[k]? =some x):w.rangeAt b (off+k*a) (ec x):=λj v g=>by
 obtain⟨m,n,e,f⟩:=h.at_ i;injection e with e;injection e with c d;subst c d
 have:=f j v g;rw[<-Nat.add_assoc]at this;exact this
theorem lI{α:Type}{f:α->Bool}{l:List α}{k:Nat}{x:α}(b:l[k]? =some x)(h:(l.take k).all f=true)(a:f x=true):(l.take (k+1)).all f=true:=by rw[zX,b,Option.toList_some,RZ,h];simp[a]
theorem il{α:Type}{f:α->Bool}{l:List α}{k:Nat}{x:α}(b:l[k]? =some x)(a:f x=false):l.all f=false:=by rw[List.all_eq_false];exact⟨x,ue b,by simp[a]⟩
theorem Qn{P:Program}{ops:Array Oper}{rest:List Oper}{a:Act}{Q:Exit->Act->World->Prop}(x:Operand){t:TypeId}{n:Nat}{d:Option Tmp}{ty:TypeId}{c:String}{b:Array Edge}{g:Option (Nat×Bool)}{w:World}
  (h:wpList P ops Q (⟨d, .buildSlice t n #[(0,x)],ty,c,b,g⟩::rest) a w):wpList P ops Q (⟨d, .buildSlice t n #[(0,x)],ty,c,b,g⟩::rest) a w:=h
theorem v8{P:Program}{ops:Array Oper}{rest:List Oper}{a:Act}{Q:Exit->Act->World->Prop}(s x:Operand){t:TypeId}{d:Option Tmp}{ty:TypeId}{c:String}{b:Array Edge}{g:Option (Nat×Bool)}{w:World}
  (h:wpList P ops Q (⟨d, .call {callee:= .builtin .append,args:= #[s,x],argTypes:= #[t,t]},ty,c,b,g⟩::rest) a w):wpList P ops Q (⟨d, .call {callee:= .builtin .append,args:= #[s,x],argTypes:= #[t,t]},ty,c,b,g⟩::rest) a w:=h
end Go.Proofs.YtkmbmfengcdmoaaGreatDoor

namespace Go.Cv
def mZ(num den:Int):Bool:=decide (1<=den/\den<=1000000/\ -1000000000000<=num/\num<=1000000000000)&&(Nat.gcd num.natAbs den.natAbs==1)
end Go.Cv
namespace Go.Proofs.YtkmbmfengcdmoaaGreatDoor
open Go.RowKit Go.W32 Go.ay Go.Cs Go.Lib Go.Opn Go.Mg Go.Cv

theorem NG{k:IntKind}{a b:Int}(h:a=b):Ending.returned (.int k a)= .returned (.int k b):=by rw[h]
theorem L9(n:Int)(W:World)(f: -9223372036854775808<=n)(g:n<=9223372036854775807):Calls Tryz.prog 261 #[.int .i64 n] W λe w'=>e= .returned (.int .u64 (n.natAbs:Int))/\W=w':=by
 by_cases h:n<0
 ·have a:IntKind.u64.wrap (-(n+1))= -(n+1):=IntWalk.u64_in _ (by omega);have c: -(n+1)+1=(n.natAbs:Int):=by omega
  have b:IntKind.u64.wrap (-(n+1)+1)=(n.natAbs:Int):=by rw[c];exact IntWalk.u64_in _ (by omega)
  have E:Hid (IntKind.u64.wrap (IntKind.u64.wrap (-(n+1))+1)=(n.natAbs:Int)):=h_ (by rw[a,b]);have d:Hid (IntKind.u64.wrap (-(n+1)+1)=(n.natAbs:Int)):=h_ b;clear a c b;go_enter Tryz.func261,Tryz.ntmps261;go_wp2_with fail;go_ret;exact⟨NG (by first|exact E.out|exact d.out|omega),rfl⟩
 ·have a:IntKind.u64.wrap n=n:=IntWalk.u64_in _ (by omega);have E:Hid (n=(n.natAbs:Int)):=h_ (by omega);go_enter Tryz.func261,Tryz.ntmps261;go_wp2_with fail;go_ret;exact⟨NG E.out,rfl⟩
def N0(W:World)(l:List Nat)(u v:Value)(wr:World):Prop:=∃(k g:Nat),u= .int .u64 (g:Int)/\v= .int .i64 (k:Int)/\k<=l.length/\g=(l.take k).foldl Nat.gcd 0/\g<18446744073709551616/\Below W.heap.size W wr
def NZ(W:World)(G:Nat)(u v:Value)(wr:World):Prop:=∃(g n:Nat),u= .int .u64 (g:Int)/\v= .int .u64 (n:Int)/\Nat.gcd g n=G/\g<18446744073709551616/\n<18446744073709551616/\Below W.heap.size W wr
def Av(n:Nat):List Value:= [.int .u64 (n:Int)]
theorem E4{l:List Nat}{k x:Nat}(h:l[k]? =some x):(l.take (k+1)).foldl Nat.gcd 0=Nat.gcd ((l.take k).foldl Nat.gcd 0) x:=by rw[zX,h,Option.toList_some,PA];rfl
set_option maxHeartbeats 1000000 in
theorem Lv(A:Option Addr)(c:Nat)(l:List Nat)(W:World)(Y:SL W 1 Av A l)(o:∀x∈l,x<18446744073709551616)(hn:l.length<=1000):Calls Tryz.prog 260 #[.slice A l.length c] W λe w'=>e= .returned (.int .u64 ((l.foldl Nat.gcd 0:Nat):Int))/\Below W.heap.size W w':=by
 obtain⟨R,K⟩:=x_ (λe w'=>e= .returned (.int .u64 ((l.foldl Nat.gcd 0:Nat):Int))/\Below W.heap.size W w':Ending->World->Prop)
 rw[<-K];have I:Hid (∀w' (g:Nat),g=l.foldl Nat.gcd 0->Below W.heap.size W w'->R (.returned (.int .u64 (g:Int))) w'):=h_ λw' g h o=>by rw[K,h];exact⟨rfl,o⟩
 clear K;have U:=h_ Y;have HB:=h_ o;have z:Hid (N0 W l (.int .u64 0) (.int .i64 0) W):=h_ ⟨0,0,rfl,rfl,gu _,rfl,by decide,Below.refl _ _⟩;clear Y o;go_enter Tryz.func260,Tryz.ntmps260;go_wp2_with fail
 go_loopw [3,8] (λu v wr=>N0 W l u v wr) (λ_ v _=>(l.length:Int).toNat- (RowKit.intOf v).toNat)
 case atStart=>exact z.out
 case round=>
  clear z;obtain⟨k,g,rfl,rfl,N,H,t,a⟩:=hrel;rcases pC N with i|i
  ·have O:(k:Int)<(l.length:Int):=by omega
   have an:(k:Int)<=1000:=by omega
   obtain⟨b,T,rfl⟩:=cG U.out (by rintro rfl;simp at i);obtain⟨x,E⟩:∃x,l[k]? =some x:=⟨_,eH i⟩
   have Z:=dq (U.out.below a (aL _)) E;have cx:wr.cell? ⟨b,T+k,none⟩=some (.int .u64 (x:Int)):=by have h:=Z 0 (.int .u64 (x:Int)) rfl;rwa[KJ,KO]at h
   have y:=HB.out x (ue E);have m:Hid (∀w',Below wr.heap.size wr w'->N0 W l (.int .u64 ((Nat.gcd g x:Nat):Int)) (.int .i64 ((k:Int)+1)) w'):=h_ λw' o=>⟨k+1,Nat.gcd g x,rfl,rfl,i,by rw[E4 E, <-H],by
    rcases Nat.eq_zero_or_pos g with h|h
    ·rw[h,Nat.gcd_zero_left];exact y
    ·exact Nat.lt_of_le_of_lt (Nat.gcd_le_left x h) t,a.trans (o.mono a.size)⟩
   have p:Hid (NZ wr (Nat.gcd g x) (.int .u64 (g:Int)) (.int .u64 (x:Int)) wr):=h_ ⟨g,x,rfl,rfl,rfl,t,y,Below.refl _ _⟩;obtain⟨G,V⟩:=x_ (Nat.gcd g x)
   rw[<-V]at m p;clear V Z E H t a N y;go_wp2_with fail;generalize wr=wo at*
   go_loopw [3,5] (λu v wi=>NZ wo G u v wi) (λ_ v _=>(RowKit.intOf v).toNat)
   case atStart=>exact p.out
   case round=>
    clear p;obtain⟨d,n,rfl,rfl,F,M,P,f⟩:=hrel;by_cases hz:n=0
    ·have Q:((n:Int)==0)=true:=by simp[hz]
     have S:((n:Int) !=0)=false:=by simp[hz]
     have B:G=d:=by rw[<-F,hz,Nat.gcd_zero_right]
     have D:=h_ (m.out wr f);rw[B]at D;clear hz F f B m;go_wp2_with fail
     go_roundw
     case rel=>exact D.out
     case measure=>simp[RowKit.intOf];omega
    ·have Q:((n:Int)==0)=false:=by simp[hz]
     have S:((n:Int) !=0)=true:=by simp[hz]
     have bi: ¬(n:Int)=0:=by omega
     have t2:(d:Int).tmod (n:Int)=((d % n:Nat):Int):=by rw[Int.tmod_eq_emod_of_nonneg (by omega)];omega
     have t4:IntKind.u64.wrap (((d % n:Nat):Int))=((d % n:Nat):Int):=IntWalk.u64_in _ (by have:=M3 d (Nat.pos_of_ne_zero hz);omega);have w:=M3 d (Nat.pos_of_ne_zero hz);have s:Hid (∀w',Below wr.heap.size wr w'->NZ wo G (.int .u64 (n:Int)) (.int .u64 ((d % n:Nat):Int)) w'):=h_ λw' o=>⟨n,d % n,rfl,rfl,by rw[<-F,Nat.gcd_comm d n,Nat.gcd_rec n d,Nat.gcd_comm],P,by omega,f.trans (o.mono f.size)⟩
     obtain⟨q,X⟩:=x_ (d % n)
     rw[<-X]at t2 t4 s w;have J:=h_ w;clear X F f M w;go_wp2_with fail;refine Free.ai 6 [] (λw'=>Below wr.heap.size wr w') (by kernel_rfl) (by kernel_rfl) (Free.aW (λj mk r L=>by simp only[Free.find]at L;repeat' (first|cases L|split at L))) (Below.refl _ _).drew (λ_ _ h g=>h.trans (Below.mono g h.size)) ?_;simp only[eJ,dT];iterate 6 (apply Free.ae (Free.wq rfl) rfl;(intro w' hB hA;obtain qB:=hB;clear hA;go_light;go_simp<;>rfl);(try simp only[Pt]))
     apply Free.ax;intro w6 C _ _;have D:=h_ (s.out w6 C);simp only[fm,fo];clear C s m;go_wp2_with fail
     go_roundw
     case rel=>exact D.out
     case measure=>have:=J.out;simp[RowKit.intOf];omega
  ·have O: ¬(k:Int)<(l.length:Int):=by omega
   have HF:=h_ (I.out wr g (by rw[H,np (by omega)]) a);clear H a N i;go_wp2_with fail;exact HF.out
theorem QY(W:World)(l:List Nat):SL (W.alloc (.cells (l.flatMap Av).toArray 228)) 1 Av (some ⟨W.heap.size,0,none⟩) l:=
 Apl.cO (λ_=>rfl) (show Row _ _ _ _ from Row.new _ _ _) (λj u a=>by simpa using a)
theorem Rj{x y:Value}{a b:Nat}{K:List (Nat×Free.gN)}(f:K= [(2, .det x),(5, .det y),(6, .ind (λb=> .slice (some ⟨b,0,none⟩) 2 2) (λg w=>SL w 1 Av (some ⟨g,0,none⟩) [a,b]))]):Free.dm K:=by
 subst f;intro j l r d c w m i h;simp only[Free.find]at d
 repeat' split at d
 all_goals first|(cases d;done)|skip
 injection d with d;injection d with k e;subst e;exact SL.below i h (aL _)
theorem Om{a:Act}{o:Oper}{x y:Nat}{w:World}(h:(execOp a.eval o).run Tryz.prog w= .ok (.value (.slice (some ⟨w.heap.size,0,none⟩) 2 2)) (w.alloc (.cells ([x,y].flatMap Av).toArray 228))):
  Free.dC Tryz.prog o a.eval w λu c=>Free.Grow w c/\∃b,u= .slice (some ⟨b,0,none⟩) 2 2/\SL c 1 Av (some ⟨b,0,none⟩) [x,y]:=
 Free.cq h ⟨Free.Grow.alloc _ _,w.heap.size,rfl,QY w [x,y]⟩
theorem vd(n:Int)(W:World)(b: -9223372036854775808<=n)(a:n<=9223372036854775807):Calls Tryz.prog 261 #[.int .i64 n] W λe w'=>e= .returned (.int .u64 (n.natAbs:Int))/\Below W.heap.size W w':=
 (L9 n W b a).mono λ_ _ ⟨a,c⟩=>⟨a,by subst c;exact Below.refl _ _⟩
set_option maxHeartbeats 1000000 in
theorem Dv(num a:Int)(W:World):Calls Tryz.prog 222 #[.agg #[.int .i64 num, .int .i64 a]] W λe w'=>e= .returned (.bool (mZ num a))/\Below W.heap.size W w':=by
 obtain⟨R,K⟩:=x_ (λe w'=>e= .returned (.bool (mZ num a))/\Below W.heap.size W w':Ending->World->Prop)
 rw[<-K];have c:Hid (∀w' v,v=mZ num a->Below W.heap.size W w'->R (.returned (.bool v)) w'):=h_ λw' v h G=>by rw[K,h];exact⟨rfl,G⟩
 clear K;obtain⟨d,F⟩:=x_ (W.alloc (.cells #[.int .i64 num, .int .i64 a] 32))
 have i:Row d W.heap.size 32 [.int .i64 num, .int .i64 a]:=by rw[F];exact Row.new _ _ _
 have B:Below W.heap.size W d:=by rw[F];exact(Below.refl _ _).alloc (aL _) _
 have I:d.cell? ⟨W.heap.size,0,none⟩=some (.int .i64 num):=i.at rfl;have J:d.cell? ⟨W.heap.size,1,none⟩=some (.int .i64 a):=i.at rfl;have HC:Hid (∀w',Below d.heap.size d w'->w'.cell? ⟨W.heap.size,0,none⟩=some (.int .i64 num)/\w'.cell? ⟨W.heap.size,1,none⟩=some (.int .i64 a)):=h_ λw' G=>⟨(i.below G i.lt).at rfl,(i.below G i.lt).at rfl⟩
 have r:Hid (W.alloc (.cells #[.int .i64 num, .int .i64 a] 32)=d):=h_ F.symm;have j:=h_ B;clear F i B;by_cases P:1<=a;rotate_left
 ·have k:=h_ (c.out d false (by unfold mZ;rw[dy (by omega)];rfl) j.out);clear c;go_enter Tryz.func222,Tryz.ntmps222;go_wp2_with (simp only[r.out])
  exact k.out
 by_cases Q:a<=1000000;rotate_left
 ·have k:=h_ (c.out d false (by unfold mZ;rw[dy (by omega)];rfl) j.out);clear c;go_enter Tryz.func222,Tryz.ntmps222;go_wp2_with (simp only[r.out])
  exact k.out
 by_cases S: -1000000000000<=num;rotate_left
 ·have k:=h_ (c.out d false (by unfold mZ;rw[dy (by omega)];rfl) j.out);clear c;go_enter Tryz.func222,Tryz.ntmps222;go_wp2_with (simp only[r.out])
  exact k.out
 by_cases T:num<=1000000000000;rotate_left
 ·have k:=h_ (c.out d false (by unfold mZ;rw[dy (by omega)];rfl) j.out);clear c;go_enter Tryz.func222,Tryz.ntmps222;go_wp2_with (simp only[r.out])
  exact k.out
 have t:Hid (mZ num a=(Nat.gcd num.natAbs a.natAbs==1)):=h_ (by unfold mZ;rw[dt ⟨P,Q,S,T⟩];rfl);have l:=h_ (λw=>vd num w (by omega) (by omega));have m:=h_ (λw=>vd a w (by omega) (by omega));have L:num.natAbs<18446744073709551616:=by omega
 have M:a.natAbs<18446744073709551616:=by omega
 obtain⟨x,u⟩:=x_ num.natAbs
 obtain⟨y,A⟩:=x_ a.natAbs
 rw[<-u]at l t L;rw[<-A]at m t M;have H:=h_ (And.intro L M);clear u A I J L M;have I:=(HC.out d (Below.refl _ _)).1;have J:=(HC.out d (Below.refl _ _)).2;go_enter Tryz.func222,Tryz.ntmps222;go_wp2_with (simp only[r.out])
 refine Free.ai 7 [(2, .det (.int .u64 (x:Int))),(5, .det (.int .u64 (y:Int))),(6, .ind (λb=> .slice (some ⟨b,0,none⟩) 2 2) (λg w=>SL w 1 Av (some ⟨g,0,none⟩) [x,y]))] (λw'=>Below d.heap.size d w') (by kernel_rfl) (by kernel_rfl) (Rj rfl) (Below.refl _ _).drew (λ_ _ h g=>h.trans (Below.mono g h.size)) ?_;simp only[eJ,dT];iterate 7 (first|(apply Free.aC (Free.wq rfl) rfl;(intro w' o n;refine Free.au (f:=261) (args:= #[.int .i64 num]) (by clear o n;go_simp<;>rfl) ?_;refine(l.out _).mono ?_;rintro e V ⟨rfl,p⟩;exact⟨_,rfl,p,rfl⟩);simp only[Pt])|(apply Free.aC (Free.wq rfl) rfl;(intro w' o n;refine Free.au (f:=261) (args:= #[.int .i64 a]) (by clear o n;go_simp<;>rfl) ?_;refine(m.out _).mono ?_;rintro e V ⟨rfl,p⟩;exact⟨_,rfl,p,rfl⟩);simp only[Pt])|(apply Free.ae rfl rfl;(intro w' o n;cases HC.out w' o;clear n;go_light;go_simp<;>rfl);(try simp only[Pt]))|(apply Free.aR rfl rfl;(intro w' o n;refine Om ?_;clear o n;go_light;go_simp<;>rfl)))
 intro U;simp only[Pt];apply Free.ax;intro X D _ O;have q:=O _ dH;dsimp only at q;have E:=h_ (Lv (some ⟨U,0,none⟩) 2 [x,y] X q (by intro z hz;have:=H.out;simp at hz;omega) (by simp));rw[show [x,y].length=2 from rfl,show [x,y].foldl Nat.gcd 0=Nat.gcd x y from by simp]at E;have s:=h_ (j.out.trans (D.mono j.out.size));simp only[fm,fo];clear q D O HC I J l m;obtain⟨g,N⟩:=x_ (Nat.gcd x y)
 rw[<-N]at E t;clear N;go_wp2_with fail;refine E.out.mono ?_;rintro e Y ⟨rfl,C⟩;have k:=h_ (c.out Y ((g:Int)==1) (by rw[t.out,Px];simp;omega) (s.out.trans (C.mono s.out.size)));clear C E t c;go_wp2_with fail;exact k.out
end Go.Proofs.YtkmbmfengcdmoaaGreatDoor
