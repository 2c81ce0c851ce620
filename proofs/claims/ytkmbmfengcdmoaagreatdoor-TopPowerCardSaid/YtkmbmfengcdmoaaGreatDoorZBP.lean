/- The law TopPower: the keys of secrets. Condition: the list of secrets is no longer than a process's memory. -/
import Derived.Test.YtkmbmfengcdmoaaGreatDoorZBO
import Derived.Test.YtkmbmfengcdmoaaGreatDoorZBM
import Derived.Test.YtkmbmfengcdmoaaGreatDoorZBJ
import Derived.Test.YtkmbmfengcdmoaaGreatDoorZBI
import Derived.Test.YtkmbmfengcdmoaaGreatDoorZBN
import Derived.Test.YtkmbmfengcdmoaaGreatDoorZBL
set_option maxRecDepth 100000
set_option linter.all false
namespace Go.Proofs.YtkmbmfengcdmoaaGreatDoor
open Go.RowKit Go.W32 Go.ay Go.Cs Go.Lib Go.Opn Go.Mg Go.Cv Go.Apl

theorem yw(a b:Nat):lk (jk a b):=⟨by show 2<=9223372036854775807;decide,by show 0<=9223372036854775807;decide,by show 3<=9223372036854775807;decide,by show 0<=9223372036854775807;decide,by show 0<=9223372036854775807;decide,gu _,λk c=>by cases c⟩
theorem ru(W:World)(a b c d x:List Value)(T U V X Y:TypeId):∃w,w=((((W.alloc (.cells a.toArray T)).alloc (.cells b.toArray U)).alloc (.cells c.toArray V)).alloc (.cells d.toArray X)).alloc (.cells x.toArray Y)/\Below W.heap.size W w/\ay w W.heap.size a T/\ay w (W.heap.size+1+1+1) d X/\ay w (W.heap.size+1+1+1+1) x Y:=by
 refine⟨_,rfl,((((Below.refl _ W).alloc (aL _) _).alloc (by simp) _).alloc (by simp;omega) _|>.alloc (by simp;omega) _)|>.alloc (by simp;omega) _, ?_, ?_, ?_⟩
 ·exact((((ay.new W a T).alloc _).alloc _).alloc _).alloc _
 ·exact(ay.made (l:=d) (by simp) rfl).alloc _
 ·exact ay.made (l:=x) (by simp) rfl
set_option maxHeartbeats 1000000 in
theorem yu(W:World):Calls Tryz.prog 76 #[.int .i64 9, .slice none 0 0] W λe w'=> ∃a b,e= .returned (.agg (cD (jk a b)).toArray)/\dV w' (jk a b)/\Below W.heap.size W w':=by
 obtain⟨R,g⟩:=x_ (λe w'=> ∃a b,e= .returned (.agg (cD (jk a b)).toArray)/\dV w' (jk a b)/\Below W.heap.size W w':Ending->World->Prop)
 rw[<-g];have h:=h_ g;clear g;go_enter Tryz.func76,Tryz.ntmps76;go_wp2_with fail;obtain⟨f,d⟩:=x_ (cD (jk (W.heap.size+1+1+1) (W.heap.size+1+1+1+1)):List Value)
 obtain⟨V,m,o,i,a,b⟩:=ru W f [.int .i64 1, .int .i64 0, .int .i64 0, .int .i64 (-1), .int .i64 (-1), .int .i64 0, .int .i64 1] [.int .i64 1, .int .i64 1, .int .i64 0, .int .i64 (-1), .int .i64 (-1), .int .i64 0, .int .i64 1] [.int .i64 0, .int .i64 1]
  [.int .i64 1, .int .i64 0, .int .i64 0, .int .i64 (-1), .int .i64 (-1), .int .i64 0, .int .i64 1, .int .i64 1, .int .i64 0, .int .i64 0, .int .i64 (-1), .int .i64 (-1), .int .i64 0, .int .i64 1, .int .i64 1, .int .i64 1, .int .i64 0, .int .i64 (-1), .int .i64 (-1), .int .i64 0, .int .i64 1] 27 155 155 3 155
 have c:=m;rw[d]at c;rw[show(cD (jk (W.heap.size+1+1+1) (W.heap.size+1+1+1+1))).toArray= #[.int .i64 2, .slice (some ⟨W.heap.size+1+1+1,0,none⟩) 2 2, .slice none 0 0, .slice (some ⟨W.heap.size+1+1+1+1,0,none⟩) 3 3, .slice none 0 0, .int .i64 9, .slice none 0 0] from rfl]at c;rw[<-c];refine bodyPost_ret (v:= .agg f.toArray) (Hk.results_cell_row (fn:=Tryz.f76) (p:=4) (ty:=27) rfl _ _ W.heap.size 27 f.toArray (0,0) _ rfl i Tryz.underlying27 rfl (by rw[d];kernel_rfl)) rfl ?_;rw[h.out];refine⟨W.heap.size+1+1+1,W.heap.size+1+1+1+1,by rw[d],⟨?_,SL.nil, ?_,SL.nil,SL.nil,λk r=>by cases r⟩,o⟩
 ·exact mO (l:= [0,1]) a
 ·exact cO (λ_=>rfl) b (λj u q=>by simpa[jk,ln]using q)
open Go.Jn Go.Dk Go.Mp Go.Ho Go.Maps Go.WideMaps Go.Rf
structure Aside {α:Type} (B:Nat) (w:World) (p:Pl) (T:TypeId) (sz:Nat) (ec:α->List Value) (u:Value) (l:List α):Prop where
 row:w.ownsRow B T sz u l.length (l.flatMap ec)
 off:∀k,u.ownBlock=some k-> ¬p.F k
section
variable {α:Type} {B:Nat} {we w w':World} {n:Nat} {p p':Pl} {s s':HS} {T:TypeId} {sz:Nat} {ec:α->List Value} {u v:Value} {l:List α} {e:Ending}
theorem Aside.grow(h:Aside B w p T sz ec u l)(a:Below w.heap.size w w'):Aside B w' p T sz ec u l:=
 ⟨bC h.row (λk e=>a.block k (World.ownsRow.lt h.row k e).2),h.off⟩
theorem Aside.step(h:Aside B w p T sz ec u l)(a:aJ p.F w w')(b:∀k,p'.F k->p.F k\/w.heap.size<=k):Aside B w' p' T sz ec u l:=
 ⟨bC h.row (λk e=>a.block k (World.ownsRow.lt h.row k e).2 (h.off k e)),λk e f=>(b k f).elim (h.off k e) (λg=>by have:=(World.ownsRow.lt h.row k e).2;omega)⟩
structure jh (we w:World) (p:Pl) (s:HS) (u1:Value) (sg_:List aV) (u2:Value) (fs:List ei):Prop where
 hc:HC we w 300 p s
 a:Aside we.heap.size w p 42 7 aK u1 sg_
 b:Aside we.heap.size w p 29 6 bU u2 fs
 ab:∀k,u1.ownBlock=some k->u2.ownBlock≠some k
variable {u1 u2:Value} {sg_:List aV} {fs:List ei}
theorem jh.base(h:jh we w p s u1 sg_ u2 fs):Below we.heap.size we w:=h.hc.pj.e.bl
theorem jh.nF(h:jh we w p s u1 sg_ u2 fs):cB w:=h.hc.pj.e.h
theorem jh.grow(h:jh we w p s u1 sg_ u2 fs)(c:Below w.heap.size w w'):jh we w' p s u1 sg_ u2 fs:=⟨h.hc.grow c,h.a.grow c,h.b.grow c,h.ab⟩
theorem jh.step(h:jh we w p s u1 sg_ u2 fs)(g:bS we w 300 p s' v e w'):e= .returned v/\∃p',p'.o=p.o/\p'.b=p.b/\jh we w' p' s' u1 sg_ u2 fs:=by obtain⟨f,p',i,j,_,k,c,d⟩:=g;exact⟨f,p',i,j,k,h.a.step c d,h.b.step c d,h.ab⟩
theorem jh.sT{es:List aV}{c:cZ}{own secret:Int}{bF:List Int}{js:JS}(h:jh we w p s u1 sg_ u2 fs)(m:GU we w p.b p.bs p.bm 300 p.pv c own secret bF js es e w')(j:oO c own secret bF=true):
  ∃p',p'.b=p.b/\e= .returned (.tuple #[.pointer (some ⟨p'.o.hb,0,none⟩), .int .i64 0])/\jh we w' p' (yX c own secret bF js es) u1 sg_ u2 fs:=by
 obtain⟨d,⟨q,_⟩|⟨_,p',r,z,A,C,t,x,y⟩⟩:=m
 ·rw[j]at q;cases q
 ·have f:∀k,p'.F k->p.F k\/w.heap.size<=k:=λk i=>(t k i).imp (λg=> .inr (.inr (.inr g))) id
  exact⟨p',r,x,y,h.a.step (aJ.aY d) f,h.b.step (aJ.aY d) f,h.ab⟩
theorem HC.grown{row:Option Nat}(h:HC we w n p s)(b:w.grownBy w' row)(a:∀k,row=some k-> ¬p.F k/\we.heap.size<=k):HC we w' n p s:=
 h.bD (F:=λk=>row=some k) ((aJ.refl _ w).grown b (λk e _=>e)) (λk f e=>(a k e).1 f) (λk e=>(a k e).2)
theorem jh.push{t:World}{d:List aV}{c:Value}(h:jh we w p s u1 sg_ u2 fs)(x:Below w.heap.size w t)(o:t.grownBy w' u1.ownBlock)(g:w'.ownsRow we.heap.size 42 7 c d.length (d.flatMap aK))(r:c.ownBlock=u1.ownBlock\/∃k,c.ownBlock=some k/\w.heap.size<=k):jh we w' p s c d u2 fs:=by
 have m:=h.grow x;refine⟨m.hc.grown o (λk e=>⟨h.a.off k e,(World.ownsRow.lt h.a.row k e).1⟩),⟨g,λk e f=> ?_⟩,⟨bC m.b.row (λk e=>o.block k (World.ownsRow.lt m.b.row k e).2 (λi=>h.ab k i.symm e)),h.b.off⟩,λk e=> ?_⟩
 ·rcases r with q|⟨j,q,y⟩
  ·exact h.a.off k (by rw[<-q];exact e) f
  ·rw[q]at e;cases e
   have:=h.hc.lt f;omega
 ·rcases r with q|⟨j,q,y⟩
  ·exact h.ab k (by rw[<-q];exact e)
  ·rw[q]at e;cases e
   intro i
   have:=(World.ownsRow.lt h.b.row _ i).2;omega
theorem jh.y6{t:World}{d:List ei}{c:Value}(h:jh we w p s u1 sg_ u2 fs)(x:Below w.heap.size w t)(o:t.grownBy w' u2.ownBlock)(g:w'.ownsRow we.heap.size 29 6 c d.length (d.flatMap bU))(r:c.ownBlock=u2.ownBlock\/∃k,c.ownBlock=some k/\w.heap.size<=k):jh we w' p s u1 sg_ c d:=by
 have m:=h.grow x;refine⟨m.hc.grown o (λk e=>⟨h.b.off k e,(World.ownsRow.lt h.b.row k e).1⟩),⟨bC m.a.row (λk e=>o.block k (World.ownsRow.lt m.a.row k e).2 (λi=>h.ab k e i.symm)),h.a.off⟩,⟨g,λk e f=> ?_⟩,λk e=> ?_⟩
 ·rcases r with q|⟨j,q,y⟩
  ·exact h.b.off k (by rw[<-q];exact e) f
  ·rw[q]at e;cases e
   have:=h.hc.lt f;omega
 ·rcases r with q|⟨j,q,y⟩
  ·rw[q];exact h.ab k e
  ·rw[q];intro i;cases i
   have:=(World.ownsRow.lt h.a.row _ e).2;omega
end
theorem uk{we w:World}{p:Pl}{s:HS}{u1 u2:Value}{sg_:List aV}{fs:List ei}(x:aV)(h:jh we w p s u1 sg_ u2 fs)(M:sg_.length<=1000)(z y:Operand)(Q:Exit->Act->World->Prop)(ops:Array Oper)(rest:List Oper)(o:Oper)(a:Act)(g:o.guard=none)
  (G:o.op= .call {callee:= .builtin .append,args:= #[z,y],argTypes:= #[56,56]}) (H:a.eval z=u1) (J:a.eval y= .slice (some ⟨w.heap.size,0,none⟩) 1 1)
  (F:∀A c w',Hid (jh we w' p s (.slice A (sg_.length+1) c) (sg_++ [x]) u2 fs)->wpList Tryz.prog ops Q rest (a.put o.dst (.slice A (sg_.length+1) c)) w'):wpList Tryz.prog ops Q (o::rest) a (w.alloc (.cells (aK x).toArray 42)):=by
 obtain⟨i,E,q,r,t⟩:=wF;have d:Below w.heap.size w (w.alloc (.cells (aK x).toArray 42)):=(Below.refl _ _).alloc (aL _) _;have C:=h.grow d;have k:SL (w.alloc (.cells (aK x).toArray 42)) 7 aK (some ⟨w.heap.size,0,none⟩) [x]:=cO bT (ay.new w (aK x) 42) (λj u I=>by simpa using I);refine dF g z y 56 G we.heap.size 42 i _ 72 Tryz.underlying56 E q r t rfl (by decide) bT cm u1 sg_.length _ H C.a.row (some ⟨w.heap.size,0,none⟩) 1 [x] J k (by show sg_.length+1<=_;unfold maxLen;omega) (by show(sg_.length+1)*72<=_;omega) C.base.size ?_;intro K D b f m;have b:D.ownsRow we.heap.size 42 7 K (sg_.length+1) (sg_.flatMap aK++ [x].flatMap aK):=b;obtain⟨A,c,rfl⟩:=fG b;exact F A c D (h_ (h.push d f (by rw[fu,DU];exact b) (m.imp id λe=>⟨_,e,d.size⟩)))
theorem zr{we w:World}{p:Pl}{s:HS}{u1 u2:Value}{sg_:List aV}{fs:List ei}(x:ei)(h:jh we w p s u1 sg_ u2 fs)(N:fs.length<=1000)(C y:Operand)(Q:Exit->Act->World->Prop)(ops:Array Oper)(rest:List Oper)(o:Oper)(a:Act)(k:o.guard=none)
  (H:o.op= .call {callee:= .builtin .append,args:= #[C,y],argTypes:= #[73,73]}) (I:a.eval C=u2) (K:a.eval y= .slice (some ⟨w.heap.size,0,none⟩) 1 1)
  (G:∀A c w',Hid (jh we w' p s u1 sg_ (.slice A (fs.length+1) c) (fs++ [x]))->wpList Tryz.prog ops Q rest (a.put o.dst (.slice A (fs.length+1) c)) w'):wpList Tryz.prog ops Q (o::rest) a (w.alloc (.cells (bU x).toArray 29)):=by
 obtain⟨i,F,r,t,z⟩:=AR;have f:Below w.heap.size w (w.alloc (.cells (bU x).toArray 29)):=(Below.refl _ _).alloc (aL _) _;have D:=h.grow f;have m:SL (w.alloc (.cells (bU x).toArray 29)) 6 bU (some ⟨w.heap.size,0,none⟩) [x]:=cO jW (ay.new w (bU x) 29) (λj u J=>by simpa using J);refine dF k C y 73 H we.heap.size 29 i _ 48 Tryz.underlying73 F r t z rfl (by decide) jW lQ u2 fs.length _ I D.b.row (some ⟨w.heap.size,0,none⟩) 1 [x] K m (by show fs.length+1<=_;unfold maxLen;omega) (by show(fs.length+1)*48<=_;omega) D.base.size ?_;intro M E d g q;have d:E.ownsRow we.heap.size 29 6 M (fs.length+1) (fs.flatMap bU++ [x].flatMap bU):=d;obtain⟨A,c,rfl⟩:=fG d;exact G A c E (h_ (h.y6 f g (by rw[fu,DU];exact d) (q.imp id λe=>⟨_,e,f.size⟩)))
structure DJ (we:World) (c:cZ) (me secret:Int) (bF:List Int) (db_ k:Nat) (vh u1 u2:Value) (w:World) (p:Pl) (s:HS) (es sg_:List aV) (fs:List ei):Prop where
 h:vh= .pointer (some ⟨p.o.hb,0,none⟩)
 d:p.b=db_
 i:jh we w p s u1 sg_ u2 fs
 ps:cM c me secret bF 300 s k es
 A8:∀e∈sg_,e∈es
 Cx:∀x∈fs,x∈cg s es
 ls:sg_.length<=k
 lf:fs.length<=k
structure Z9 (we w:World) (n:Nat) (p:Pl) (s:HS) (L:List Bk):Prop where
 hc:HC we w n p s
 bg:∀x∈L,ay w x.1 x.2.1 x.2.2/\ ¬p.F x.1
section
variable {we w w':World} {n:Nat} {p:Pl} {s s':HS} {v:Value} {e:Ending} {L:List Bk}
theorem Z9.base(h:Z9 we w n p s L):Below we.heap.size we w:=h.hc.pj.e.bl
theorem Z9.nF(h:Z9 we w n p s L):cB w:=h.hc.pj.e.h
theorem Z9.grow(h:Z9 we w n p s L)(b:Below w.heap.size w w'):Z9 we w' n p s L:=⟨h.hc.grow b,λx a=>⟨(h.bg x a).1.below b (h.bg x a).1.lt,(h.bg x a).2⟩⟩
theorem Z9.push(h:Z9 we w n p s L)(cs:List Value)(T:TypeId)(c:w'=w.alloc (.cells cs.toArray T)):Z9 we w' n p s ((w.heap.size,cs,T)::L):=by
 have b:Below w.heap.size w w':=by rw[c];exact(Below.refl _ _).alloc (aL _) _
 refine⟨h.hc.grow b,λx a=> ?_⟩;rcases lC.1 a with rfl|a
 ·exact⟨by rw[c];exact ay.new w cs T,λf=>by have:=h.hc.lt f;exact absurd this (Nat.lt_irrefl _)⟩
 ·exact(h.grow b).bg x a
theorem Z9.step(h:Z9 we w n p s L)(i:bS we w n p s' v e w'):e= .returned v/\∃p',p'.o=p.o/\p'.b=p.b/\Z9 we w' n p' s' L:=by obtain⟨d,p',k,m,_,q,r,t⟩:=i;refine⟨d,p',k,m,q,λx j=> ?_⟩;obtain⟨a,c⟩:=h.bg x j;exact⟨a.bG (r.block _ a.lt c),λf=>(t _ f).elim c (λg=>by have:=a.lt;omega)⟩
theorem Z9.sT{es:List aV}{c:cZ}{own secret:Int}{bF:List Int}{js:JS}(h:Z9 we w n p s L)(j:GU we w p.b p.bs p.bm n p.pv c own secret bF js es e w')(i:oO c own secret bF=true):
  ∃p',p'.b=p.b/\e= .returned (.tuple #[.pointer (some ⟨p'.o.hb,0,none⟩), .int .i64 0])/\Z9 we w' n p' (yX c own secret bF js es) L:=by
 obtain⟨d,⟨q,_⟩|⟨_,p',r,A,C,D,t,y,z⟩⟩:=j
 ·rw[i]at q;cases q
 ·refine⟨p',r,y,z,λx a=> ?_⟩;obtain⟨k,m⟩:=(h.grow d).bg x a;exact⟨k,λf=>(t _ f).elim (λg=>m (.inr (.inr (.inr g)))) (λg=>by have:=(h.bg x a).1.lt;omega)⟩
end
theorem Bd{P:Program}{ops:Array Oper}{rest:List Oper}{a:Act}{Q:Exit->Act->World->Prop}(x:Operand){t:TypeId}{n:Nat}{p:Nat×Operand}{d:Option Tmp}{ty:TypeId}{c:String}{b:Array Edge}{g:Option (Nat×Bool)}{w:World}
  (h:wpList P ops Q (⟨d, .buildSlice t n #[(0,x),p],ty,c,b,g⟩::rest) a w):wpList P ops Q (⟨d, .buildSlice t n #[(0,x),p],ty,c,b,g⟩::rest) a w:=h
theorem AS(a b:aV)(w:World):(Instr.buildSlice 56 2 #[(0, .agg (aK a).toArray),(1, .agg (aK b).toArray)]).run Tryz.prog w= .ok (.slice (some ⟨w.heap.size,0,none⟩) 2 2) (w.alloc (.cells (aK a++aK b).toArray 42)):=by kernel_rfl
set_option maxHeartbeats 8000000 in
theorem tq(W:World)(hT:cB W)(hE:gK W):Calls Tryz.prog 31 #[] W λe w'=>e= .returned (.bool true)/\Below W.heap.size W w':=by
 obtain⟨R,eR⟩:=x_ (λe w'=>e= .returned (.bool true)/\Below W.heap.size W w':Ending->World->Prop)
 rw[<-eR];have pm:Hid (∀w',Below W.heap.size W w'->R (.returned (.bool true)) w'):=h_ λw' h=>by rw[eR];exact⟨rfl,h⟩
 have HT:=h_ hT;have HE:=h_ hE;clear eR hT hE;go_enter Tryz.func31,Tryz.ntmps31;go_wp2_with fail;refine(yu W).mono ?_;rintro e w1 ⟨Y,Z,rfl,E8,lm⟩;obtain⟨Q,I⟩:=x_ (cD (jk Y Z))
 obtain⟨w2,e2⟩:=x_ (w1.alloc (.cells Q.toArray 27))
 have d8:Below w1.heap.size w1 w2:=by rw[e2];exact(Below.refl _ _).alloc (aL _) _
 have d7:=lm.trans (d8.mono lm.size);have pu:=h_ d7;have m6:ay w2 w1.heap.size Q 27:=by rw[e2];exact ay.new w1 Q _
 have ro:Hid (∀w',Below w2.heap.size w2 w'->w'.rangeAt w1.heap.size 0 Q):=h_ λw' h=>rg_of (m6.below h m6.lt)
 have qr:Hid (∀w',Below w2.heap.size w2 w'->dV w' (jk Y Z)):=h_ λw' h=>E8.below (d8.trans (h.mono d8.size)) (aL _)
 have HI:=h_ (ig Q (by rw[I];rfl));have It:Hid (Q.length=7):=h_ (by rw[I];rfl);have HO:Hid (∀u∈Q,u.oneCell'=true):=h_ (by rw[I];exact Au _);have ut:=h_ (HT.out.below d7 (aL _));have E:=h_ (HE.out.below d7 (aL _));have E2:=h_ e2;have no:=h_ I;rw[<-I];clear E8 lm d8 d7 m6 I e2;go_wp2_with (first
  |(refine aN (.tmp 1) ?_;refine Hk.aD rfl 27 (.tmp 1) (.tmp 16) rfl w1.heap.size Q.toArray rfl rfl _ 27 rfl (by rw[HI.out];simp) (by simp[It.out]) (all_oneCell_toArray HO.out) ?_;rw[<-E2.out];simp only[Pt]))
 refine(l5 w2.heap.size 60 w2 (by decide) (by decide) (aL _)).mono ?_;rintro e X ⟨F,rfl,⟨bs,bm,m5,F'⟩,lw⟩;obtain⟨w4,e4⟩:=x_ (X.alloc (.cells #[.int .i64 16807, .int .i64 49] 3))
 have mt:Below X.heap.size X w4:=by rw[e4];exact(Below.refl _ _).alloc (aL _) _
 have i9:=h_ (lw.trans (mt.mono lw.size));have m7:ay w4 X.heap.size [.int .i64 16807, .int .i64 49] 3:=by rw[e4];exact ay.new X [.int .i64 16807, .int .i64 49] 3
 have H8:Hid (X.alloc (.cells #[.int .i64 16807, .int .i64 49] 3)=w4):=h_ e4.symm;have Fl:=Ez Y Z;have U:gq.length<=4611686018427387903:=by decide
 have C5:=h_ (uY (own:=0) (secret:=5) (pc:=2) (es:= []) ut.out E.out i9.out (m5.below mt) F' (AG (n:=60) (by decide)) rfl (qr.out w4 i9.out) (yw Y Z) (mO (l:=gq) m7) U (λe he=>by cases he) List.nodup_nil (gu _));rw[<-no.out]at C5;have ul:=h_ (ro.out w4 i9.out);have Jh:Hid (¬Fp F bs bm (.slice none 0 0) X.heap.size):=h_ λh=>by have:=m5.lt h;exact absurd this (Nat.lt_irrefl _)
 have i':=h_ m7;have jp:=h_ Fl;clear m5 F' lw e4 mt m7 Fl U;go_wp2_with (first
  |(simp only[H8.out])
  |(refine aH (.tmp 1) ?_;refine wpList_load_mid rfl 27 (.tmp 1) rfl w1.heap.size 0 rfl Q _ ul.out Tryz.underlying27 rfl HI.out ?_))
 refine C5.out.mono ?_;rintro e w5 ⟨D',⟨q,_⟩|⟨_,p0,q1,q2,q3,q4,q5,rfl,q7⟩⟩
 ·rw[jp.out]at q;cases q
 obtain⟨s0,d6⟩:=x_ (yR (jk Y Z) 0 5 gq 60)
 have O:Hid (Z9 w2 w5 60 p0 s0 [(X.heap.size,[.int .i64 16807, .int .i64 49],3)]):=h_ ⟨by rw[d6];exact q7,λx hx=>by
  rw[vU]at hx;subst hx;exact⟨i'.out.below D' i'.out.lt,λf=>(q5 _ f).elim (λg=>Jh.out g) (λg=>by have:=i'.out.lt;have:X.heap.size<w4.heap.size:=this;have:w4.heap.size<=X.heap.size:=g;omega)⟩⟩
 obtain⟨s1,s2,s3,js,e1,e3,f1,g1,f2,Gs,ed,eb,Do,f3,g3,A,E9,E',g7⟩:=Ck Y Z;rw[<-d6]at f1;have h0:cM (jk Y Z) 0 5 gq 60 s0 0 []:=by rw[d6];exact cM.new (by decide) (by decide) jp.out
 have K0:∀k d:Int,1<=k/\k<=9->0<=d/\d<=9->(Z8 k d).Ok:=BM;have C7:=h_ (jr (Z8 1 3) O.out.hc h0.gh.inv (K0 1 3 (by decide) (by decide)) O.out.nF (E.out.below O.out.base (aL _)) h0.gh.lim.1 h0.gh.lim.2);rw[f1]at C7;obtain⟨d1,S⟩:=x_ (aK e1)
 obtain⟨d0,co⟩:=x_ (aK aM)
 obtain⟨d3,dl⟩:=x_ (aK e3)
 unfold gM fv at C7;dsimp only at C7;rw[<-S]at C7;have n8:=h_ S;have In:=h_ co;have i8:=h_ dl;have G1:=h_ g1;have F2:=h_ f2;have OD:=h_ Gs;have ol:=h_ ed;have EB:=h_ eb;have P2:=h_ Do;have F3:=h_ f3;have G3:=h_ g3;have Ju:=h_ A;have Iq:=h_ E9;have Iu:=h_ E';have rt:=h_ g7;have H':Hid (p0.b=F):=h_ q1;have L1:Hid (d1.length=7/\d0.length=7/\d3.length=7):=h_ (by rw[S,co,dl];exact⟨rfl,rfl,rfl⟩);have I1:=h_ (cE d1 L1.out.1);have Jr:=h_ (cE d0 L1.out.2.1);have I3:=h_ (cE d3 L1.out.2.2);have Jt:Hid (∀u∈d1,u.oneCell'=true):=h_ (by rw[S];exact cm _);have Js:Hid (∀u∈d0,u.oneCell'=true):=h_ (by rw[co];exact cm _);have O3:Hid (∀u∈d3,u.oneCell'=true):=h_ (by rw[dl];exact cm _);have M1:=h_ L1.out.1;have M0:=h_ L1.out.2.1;have M3:=h_ L1.out.2.2;rw[show(bU (Z8 1 3)).toArray= #[.int .i64 1, .int .i64 0, .int .i64 0, .int .i64 0, .int .i64 3, .bool false] from rfl]at C7;clear D' q1 q2 q3 q4 q5 q7 C5 ul h0 f1 g1 f2 Gs ed eb Do f3 g3 A E9 E' g7 S co dl d6;go_wp2_with fail;refine C7.out.mono ?_;intro e w6 r;obtain⟨rfl,p1,An,v6,t⟩:=O.out.step r;have Io:=h_ An;have m9:Hid (p1.b=F):=h_ (v6.trans H'.out);have I8:=h_ t;obtain⟨w7,e7⟩:=x_ (w6.alloc (.cells d1.toArray 42))
 have E7:=h_ e7;have kw:=h_ (I8.out.push d1 42 e7);have C8:=h_ (kw.out.hc.arm 1 0 3 (by decide) (by decide) (by decide) (by decide) (by decide) (by decide));rw[m9.out]at C8;clear r An v6 t e7 C7 O;go_wp2_with (first
  |(refine aN (.tmp 6) ?_;refine Hk.aD rfl 42 (.tmp 6) (.tmp 36) rfl w6.heap.size d1.toArray rfl rfl _ 42 rfl (by rw[I1.out];simp) (by simp[M1.out]) (all_oneCell_toArray Jt.out) ?_;rw[<-E7.out];simp only[Pt]))
 refine C8.out.mono ?_;intro e w8 r;obtain⟨rfl,p2,At,wn,t⟩:=kw.out.step r;have pi:Hid (p2.o=p0.o):=h_ (At.trans Io.out);have Id:Hid (p2.b=F):=h_ (wn.trans m9.out);have P:=h_ t;have GA:=h_ (G1.out.bH (x:=1) (y:=0) (z:=3) (by decide) (by decide) (by decide) (by decide) (by decide) (by decide));have C9:=h_ (jr (Z8 2 4) P.out.hc GA.out.inv (BM 2 4 (by decide) (by decide)) P.out.nF (E.out.below P.out.base (aL _)) GA.out.lim.1 GA.out.lim.2);rw[F2.out,pi.out]at C9;unfold gM fv at C9;dsimp only at C9;rw[<-In.out]at C9;rw[show(bU (Z8 2 4)).toArray= #[.int .i64 2, .int .i64 0, .int .i64 0, .int .i64 0, .int .i64 4, .bool false] from rfl]at C9;clear r At wn t C8 kw;go_wp2_with fail;refine C9.out.mono ?_;intro e w9 r;obtain⟨rfl,p3,By,ww,t⟩:=P.out.step r;have Mb:Hid (p3.o=p0.o):=h_ (By.trans pi.out);have nl:Hid (p3.b=F):=h_ (ww.trans Id.out);have I':=h_ t;obtain⟨Mj,ld⟩:=x_ (w9.alloc (.cells d0.toArray 42))
 have Hh:=h_ ld;have K:=h_ (I'.out.push d0 42 ld);have g8:=h_ K.out.hc.start;rw[nl.out]at g8;clear r By ww t ld C9 P GA;go_wp2_with (first
  |(refine aN (.tmp 8) ?_;refine Hk.aD rfl 42 (.tmp 8) (.tmp 44) rfl w9.heap.size d0.toArray rfl rfl _ 42 rfl (by rw[Jr.out];simp) (by simp[M0.out]) (all_oneCell_toArray Js.out) ?_;rw[<-Hh.out];simp only[Pt]))
 refine g8.out.mono ?_;intro e V r;obtain⟨rfl,p4,J5,z',t⟩:=K.out.step r;have If:Hid (p4.b=F):=h_ (z'.trans nl.out);have a:=h_ t;have bi:=h_ a.out.base;have gt:aI V p4.b p4.bs p4.bm p4.pv s2.js.d.start 60:=a.out.hc.pj.j.ly;obtain⟨Kn,Ko,Ki,Gb,jb⟩:=js;have Kh:Kn=s2.js.d.start:=ol.out;have J':jb=false:=EB.out;subst Kh;subst J';have G:=P2.out;have Fd:Gb= [e1].map λe=>(aP e).data.toList:=G.bW
 have Fk:∀e∈ [e1],e.Ok/\e.prev.size<=1000000/\e.body.size<=1000000/\gB (jk Y Z).aj gq e (aP e)=true:=λe he=>⟨(G.ok e he).1,(G.ok e he).2.1,(G.ok e he).2.2,G.vZ e he⟩
 have Fr:=(a.out.bg _ (iB _ (iB _ dH))).1;have U:gq.length<=4611686018427387903:=by decide
 have ii:=h_ (uY (own:=0) (secret:=5) (pc:=2) [e1] ut.out E.out bi.out gt (λk hk=>a.out.hc.ju (.inr (.inr (.inr hk)))) OD.out Fd (qr.out V bi.out) (yw Y Z) (mO (l:=gq) Fr) U Fk (gL G.chain) (by show 1<=1000000;decide));rw[<-no.out]at ii;have f8:Hid (Calls Tryz.prog 20 #[.agg Q.toArray, .int .i64 0, .int .i64 5, .slice (some ⟨X.heap.size,0,none⟩) 2 2, .pointer (some ⟨F,0,none⟩)] V (GU w2 V p4.b p4.bs p4.bm 60 p4.pv (jk Y Z) 0 5 gq ⟨s2.js.d.start,Ko,Ki,Gb,false⟩ [e1])):=h_ (by
  have h:=ii.out;rw[If.out]at h⊢;exact h)
 have f9:=h_ (ro.out V bi.out);clear r J5 z' t gt G Fd Fk Fr U g8 ii K OD ol EB;go_wp2_with (first
  |(refine aH (.tmp 1) ?_;refine wpList_load_mid rfl 27 (.tmp 1) rfl w1.heap.size 0 rfl Q _ f9.out Tryz.underlying27 rfl HI.out ?_))
 refine f8.out.mono ?_;intro e Mo r;obtain⟨p5,Jz,rfl,t⟩:=a.out.sT r jp.out;have c:=h_ t;have D:=h_ (jr (Z8 3 5) c.out.hc P2.out.gh.inv (BM 3 5 (by decide) (by decide)) c.out.nF (E.out.below c.out.base (aL _)) P2.out.gh.lim.1 P2.out.gh.lim.2);rw[F3.out]at D;unfold gM fv at D;dsimp only at D;rw[<-i8.out]at D;rw[show(bU (Z8 3 5)).toArray= #[.int .i64 3, .int .i64 0, .int .i64 0, .int .i64 0, .int .i64 5, .bool false] from rfl]at D;clear r Jz t f8 f9 a bi;go_wp2_with fail;refine D.out.mono ?_;intro e m8 r;obtain⟨rfl,p6,C',_,t⟩:=c.out.step r;have up:=h_ t;have pl:=h_ C';obtain⟨C,li⟩:=x_ (m8.alloc (.cells d3.toArray 42))
 have Hl:=h_ li;have H:=h_ (up.out.push d3 42 li);have rx:=h_ (rg_of (H.out.bg _ (iB _ (iB _ dH))).1);have sm:=h_ (rg_of (H.out.bg _ dH).1);obtain⟨d9,ci⟩:=x_ (C.alloc (.cells (d1++d3).toArray 42))
 have gc:Below C.heap.size C d9:=by rw[ci];exact(Below.refl _ _).alloc (aL _) _
 have m4:=AS e1 e3 C;rw[<-n8.out, <-i8.out, <-ci]at m4;have py:=h_ m4;have M:=h_ (H.out.grow gc);have Fs:SL d9 7 aK (some ⟨C.heap.size,0,none⟩) [e1,e3]:=cO bT (show ay d9 C.heap.size (d1++d3) 42 by rw[ci];exact ay.new C _ _) (λj u hj=>by rw[n8.out,i8.out];simpa using hj);have an:=h_ (uM (some ⟨C.heap.size,0,none⟩) 2 [e1,e3] 0 16807 d9 Fs (by show 2<=9223372036854775807;decide) (by show 2<=2;decide) rt.out M.out.nF);rw[Iq.out]at an;unfold Ca at an;clear r C' t li ci gc m4 Fs D c H;go_wp2_with (first
  |(refine aN (.tmp 12) ?_;refine Hk.aD rfl 42 (.tmp 12) (.tmp 73) rfl m8.heap.size d3.toArray rfl rfl _ 42 rfl (by rw[I3.out];simp) (by simp[M3.out]) (all_oneCell_toArray O3.out) ?_;rw[<-Hl.out];simp only[Pt])
  |(refine aH (.tmp 6) ?_;refine wpList_load_mid rfl 42 (.tmp 6) rfl w6.heap.size 0 rfl d1 _ rx.out Tryz.underlying42 rfl I1.out ?_)
  |(refine aH (.tmp 12) ?_;refine wpList_load_mid rfl 42 (.tmp 12) rfl m8.heap.size 0 rfl d3 _ sm.out Tryz.underlying42 rfl I3.out ?_)
  |(refine Bd (.tmp 76) ?_;refine Row.yP rfl (lU rfl py.out) ?_;simp only[Pt]))
 refine an.out.mono ?_;rintro e L' ⟨rfl,ge⟩;have i:=h_ (M.out.grow ge);have A:s3.aj=((2:Nat):Int):=Ju.out;have io:=h_ (EH p6.o s3 L' 2 A i.out.hc.hr G3.out.inv i.out.nF (E.out.below i.out.base (aL _)));rw[pl.out]at io;clear ge an M rx sm py;go_wp2_with fail;refine io.out.mono ?_;rintro e Gu ⟨rfl,_,_,J⟩;have m:=h_ (i.out.grow J.below);have ip:=h_ (EH p6.o s3 Gu 2 A m.out.hc.hr G3.out.inv m.out.nF (E.out.below m.out.base (aL _)));rw[pl.out]at ip;clear J io i;go_wp2_with fail;refine ip.out.mono ?_;rintro e G' ⟨rfl,ac,J7,J⟩;obtain⟨x0,Fw⟩:∃x0,ac[0]? =some x0:=⟨_,eH (by omega)⟩
 have c1:G'.cell? ⟨Gu.heap.size,1,none⟩=some (.slice x0.1 2 x0.2):=by
  have h1:=mE (s:=s3) (N:=2) (ac:=ac) (j:=0) (p:=1) (by decide) (by decide);have h2:jY s3 ac 0=Iv s3 0 x0:=by unfold jY;rw[Fw]
  rw[h2]at h1;have h3:(Iv s3 0 x0)[1]? =some (.slice x0.1 2 x0.2):=by have:(dP s3 ((0:Nat):Int)).length=2:=Iu.out;unfold Iv;rw[this];rfl
  rw[h3]at h1;exact J.bg.ag 1 _ h1
 have HF:=h_ (pm.out G' (pu.out.trans ((m.out.base.trans (J.below.mono m.out.base.size)).mono pu.out.size)));clear J J7 Fw ip pm;go_wp2_with fail;(try go_ret);exact HF.out
end Go.Proofs.YtkmbmfengcdmoaaGreatDoor
namespace Go.Proofs.YtkmbmfengcdmoaaGreatDoor
open Go.RowKit Go.ay Go.Jn Go.Dk Go.Ho Go.Opn Go.Maps Go.WideMaps Go.Apl Go.Mg Go.Rf Go.Lib

def rf(l:List Int):Bool:=l.all λx=>decide (fT x)
def GW(W:World)(l:List Int)(e:Ending)(w':World):Prop:=
 Below W.heap.size W w'/\((rf l=false/\e= .returned (.tuple #[.slice none 0 0, .bool false]))\/(rf l=true/\∃v,e= .returned (.tuple #[v, .bool true])/\OI W v (l.map cQ) w'))
set_option maxHeartbeats 2000000 in
theorem IX(A:Option Addr)(c:Nat)(l:List Int)(W:World)(F:SL W 1 Cs.encI A l)(H:l.length*8<=140737488355328):Calls Tryz.prog 32 #[.slice A l.length c] W (GW W l):=by
 obtain⟨R,q⟩:=x_ (GW W l)
 rw[<-q];have t:Hid (∀w',rf l=false->Below W.heap.size W w'->R (.returned (.tuple #[.slice none 0 0, .bool false])) w'):=h_ λw' h O=>by rw[q];exact⟨O, .inl ⟨h,rfl⟩⟩
 have y:Hid (∀w' v,rf l=true->OI W v (l.map cQ) w'->R (.returned (.tuple #[v, .bool true])) w'):=h_ λw' v h I=>by rw[q];exact⟨I.below, .inr ⟨h,v,rfl,I⟩⟩
 have K:=h_ F;have M:=h_ H;clear q F H;go_enter Tryz.func32,Tryz.ntmps32;go_wp2_with fail
 go_loopw [4,5] (λu v wr=> ∃k:Nat,v= .int .i64 (k:Int)/\k<=l.length/\OI W u ((l.take k).map cQ) wr/\Hid (rf (l.take k)=true)) (λ_ v _=>(l.length:Int).toNat- (RowKit.intOf v).toNat)
 case atStart=>exact⟨0,rfl,gu _,OI.nil W,h_ rfl⟩
 case round=>
  obtain⟨k,rfl,C,b,HS⟩:=hrel;have Q:=M.out;rcases pC C with a|a
  ·have D:(k:Int)<(l.length:Int):=by omega
   obtain⟨x,z⟩:∃x,l[k]? =some x:=⟨_,eH a⟩
   have f:=K.out.below b.below (aL _);obtain⟨V,X,N⟩:=cG f (by intro e;rw[e]at a;simp at a);subst N;have U:=fi f z;have j:=h_ b;have d:=h_ a;have r:=h_ z;clear b a z f C;go_wp2_with fail;refine(rQ x wr).mono ?_;rintro e w' ⟨rfl,rfl⟩;by_cases g:fT x
   ·have m:lA x=0:=by unfold lA;rw[if_pos g]
    have G:Hid (rf (l.take (k+1))=true):=h_ (by
     have h:=HS.out;unfold rf at h⊢;rw[zX,r.out,RZ,h];simp[g])
    have i:Hid ((((l.take k).map cQ).length+1)*8<=140737488355328):=h_ (by rw[rm,jQ];have:=d.out;omega);have E:Hid ((l.take (k+1)).map cQ=(l.take k).map cQ++ [cQ x]):=h_ (by rw[zX,r.out,uE];rfl);rw[m];obtain⟨S,o⟩:=x_ (cQ x)
    rw[<-o]at E⊢;have P:=Ml S wr;clear g m o U;go_wp2_with (refine v8 (.tmp 24) (.tmp 26) ?_;refine KX j.out i.out (.tmp 24) (.tmp 26) _ _ _ _ _ rfl rfl rfl rfl ?_;intro Y Z J;simp only[Pt])
    go_roundw
    case rel=>exact⟨k+1,rfl,d.out,by rw[E.out];exact J.out.1,G⟩
    case measure=>have:=d.out;simp[RowKit.intOf];omega
   ·have m:lA x=1:=by unfold lA;rw[if_neg g]
    have i:=h_ (t.out wr (by
     unfold rf;cases h:l.all λx=>decide (fT x)with
     |false=>rfl
     |true=>exact absurd (Sc (GJ.1 h x (ue r.out))) g) j.out.below)
    rw[m];clear t y g m;go_wp2_with fail;(try go_ret);exact i.out
  ·have i:=h_ (y.out wr _ (by have h:=HS.out;rw[np (by omega)]at h;exact h) (by rw[np (by omega)]at b;exact b));have D: ¬(k:Int)<(l.length:Int):=by omega
   clear t y b C a;go_wp2_with fail;(try go_ret);exact i.out
end Go.Proofs.YtkmbmfengcdmoaaGreatDoor
