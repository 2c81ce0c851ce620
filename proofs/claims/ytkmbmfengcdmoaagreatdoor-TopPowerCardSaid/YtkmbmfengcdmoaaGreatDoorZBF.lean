/- Package house: slices.Collect of the entries that count. Condition: the house lies in memory; the variables of digest and strconv hold their numbers. -/
import Derived.Test.YtkmbmfengcdmoaaGreatDoorZBE
set_option maxRecDepth 100000
set_option linter.all false
namespace Go.Proofs.YtkmbmfengcdmoaaGreatDoor
open Go.RowKit Go.ay Go.Jn Go.Dk Go.Ho Go.Opn Go.Maps Go.WideMaps Go.Apl Go.Mg Go.Rf Go.Lib
attribute [local go_sem] Oper.semAt_some
structure lv (s:HS):Prop where
 e:Nc s.aw
 KH:0<=s.me
 me:s.me<s.aj
 pn:(s.bF.length:Int)=s.aj
 KI:s.aj<=12
def gR(s:HS):Bool:= !((bE s s.me).length==(bJ s.aw s.me).length)
theorem lv.at{s:HS}(h:lv s):∃j:Nat,s.me=(j:Int)/\j<s.bF.length:=by have a:=h.KH;have b:=h.me;have c:=h.pn;exact⟨s.me.toNat,by omega,by omega⟩
theorem ku.To{X:Nat->Prop}{cb:Nat}{w:World}{v f:Value}(b:X cb)(g:w.cell? ⟨cb,0,none⟩=some f)(c:iI cb w=none)(a:iI cb (w.setCell ⟨cb,0,none⟩ v)=none):ku X cb w (w.setCell ⟨cb,0,none⟩ v):=
 ⟨by simp,λk h _ d _=>Below.heap_setCell _ _ _ _ (λe=>d (by subst e;exact b)), .inl (by rw[c,a])⟩
theorem KeepsFrom.setCell{B:Nat}{w:World}{a:Addr}{v i:Value}(h:w.cell? a=some i):KeepsFrom B w (w.setCell a v):=
 ⟨by simp,λk o j d g=>by
  by_cases e:k=a.block
  ·obtain⟨c,t,f,b⟩:=Ht h;rw[<-e,d]at b;cases b;cases g
  ·rw[Below.heap_setCell _ _ _ _ (by exact e)];exact d⟩
theorem pQ{B D:Nat}{V w:World}{o:Obj}(h:Below B V w)(b:B<=D):Below B V (w.putObj D o):=
 ⟨h.os,h.tape,h.output,by simpa[World.putObj]using h.size,λk a=>by rw[World.putObj_heap_other (by omega)];exact h.block k a⟩
theorem sX{b:Nat}{w:World}{i:Int}{k:IntKind}(h:w.cell? ⟨b,0,none⟩=some (.int k i)):iI b w=none:=by unfold iI;rw[h]
theorem yU{b:Nat}{w:World}{n c:Nat}(h:w.cell? ⟨b,0,none⟩=some (.slice none n c)):iI b w=none:=by unfold iI;rw[h]
theorem sK{w w':World}{row:Option Nat}{a:Addr}{v:Value}(h:w.cell? a=some v)(b:w.grownBy w' row)(c:some a.block≠row):w'.cell? a=some v:=by rw[World.cell?_of_block (b.block _ (World.block_lt_of_cell? w _ h) c)];exact h
theorem kz{w w':World}{B:Nat}{row:Option Nat}{V:World}(h:Below B V w)(c:B<=w.heap.size)(a:w.grownBy w' row)(b:∀r,row=some r->B<=r):Below B V w':=
 h.trans ⟨a.os,a.tape,a.output,a.size,λk d=>a.block k (by omega) (λe=>by have:=b k e.symm;omega)⟩
def TA(W:World){C:List aV}(pre:List (jR C))(w:World):Prop:=ay w W.heap.size [.int .i64 (pre.length:Int)] 3/\Below W.heap.size W w/\W.heap.size<w.heap.size
theorem di{w:World}{B:Nat}{a:Addr}(h:B<=a.block)(u:Value):Below B w (w.setCell a u):=⟨rfl,rfl,rfl,by simp[World.setCell],λk b=>Below.heap_setCell _ _ _ _ (by omega)⟩
set_option maxHeartbeats 1000000 in
theorem sH(o:Lo)(s:HS)(W:World)(h:HR W o s)(hi:lv s)(hT:cB W):Calls Tryz.prog 46 #[.pointer (some ⟨o.hb,0,none⟩)] W λe w'=>e= .returned (.bool (gR s))/\Below W.heap.size W w':=by
 obtain⟨R,eR⟩:=x_ (λe w'=>e= .returned (.bool (gR s))/\Below W.heap.size W w':Ending->World->Prop)
 rw[<-eR];obtain⟨j,ej,hj⟩:=hi.at;obtain⟨C,eC⟩:=x_ (bE s (j:Int))
 obtain⟨L,eL⟩:=x_ (bJ s.aw (j:Int))
 have an:Hid (∀w' v,v=(!(C.length==L.length))->Below W.heap.size W w'->R (.returned (.bool v)) w'):=h_ λw' v hv hb=>by
  rw[eR,hv,eC,eL];unfold gR;rw[ej];exact⟨rfl,hb⟩
 have c3:=h.bg.ag 3 _ rfl;rw[ej]at c3;have HH:=h_ h;have HI:=h_ hi;have HT:=h_ hT;have EC:=h_ eC;have EL:=h_ eL;have HJ:=h_ hj;have EJ:=h_ ej;have bi:Hid (C.length<=1000000):=h_ (by rw[eC];unfold bE fA bJ;rw[jQ,rm,fe];have:=gE s.aw (j:Int);have:=hi.e.jX;omega);have X:=h.bg.lt;clear eR h hi hT ej eC eL hj;obtain⟨V,H⟩:=x_ (W.alloc (.cells #[.int .i64 0] 3))
 have u:Below W.heap.size W V:=by rw[H];exact(Below.refl _ _).alloc (aL _) _
 have zV:V.heap.size=W.heap.size+1:=by rw[H];simp
 have cV:ay V W.heap.size [.int .i64 0] 3:=by rw[H];exact ay.new W [.int .i64 0] 3
 have co:(W.alloc (.cells #[.int .i64 0] 3)).cell? ⟨o.hb,3,none⟩=some (.int .i64 (j:Int)):=by rw[<-H,u.cell (by exact X)];exact c3
 have EV:Hid (W.alloc (.cells #[.int .i64 0] 3)=V):=h_ H.symm;have I:=h_ u;have M:=h_ zV;have CV:=h_ cV;clear H u c3 zV X;refine jB 4 Tryz.func46 rfl ?_;simp only[Tryz.ntmps46,tY,kq,qA,Nat.reduceAdd,Nat.reduceSub,M0,MZ,M7,M6,xK,xC];go_wp2_with fail;rw[EV.out];refine(lP o.hb (j:Int) V).mono ?_;rintro e w' ⟨rfl,rfl⟩;obtain⟨E,b⟩:=x_ ((V.alloc (.cells #[.pointer (some ⟨o.hb,0,none⟩)] 50)).alloc (.cells #[.int .i64 (j:Int)] 3))
 have t:Below V.heap.size V E:=by rw[b];exact((Below.refl _ _).alloc (aL _) _).alloc (by simp) _
 have z2:E.heap.size=V.heap.size+2:=by rw[b];simp
 have d1:E.cell? ⟨V.heap.size,0,none⟩=some (.pointer (some ⟨o.hb,0,none⟩)):=by rw[b];exact((ay.new V [.pointer (some ⟨o.hb,0,none⟩)] 50).alloc _).ag 0 _ rfl
 have d2:E.cell? ⟨V.heap.size+1,0,none⟩=some (.int .i64 (j:Int)):=by rw[b];exact(ay.made (l:= [.int .i64 (j:Int)]) (by simp) rfl).ag 0 _ rfl
 have A:Below W.heap.size W E:=I.out.trans (t.mono I.out.size);have P:TA W (C:=C) [] E:=⟨CV.out.below t CV.out.lt,A,by have:=M.out;omega⟩
 have d:=h_ (And.intro z2 (And.intro d1 (And.intro d2 (And.intro A P))));rw[<-b];clear b t z2 d1 d2 A P cV co;go_wp2_with fail;refine Mz W.heap.size V.heap.size (V.heap.size+1) (λk=>k=W.heap.size) o s j C EC.out rfl (by have:=d.out.1;have:=M.out;omega) (λk hk=>by have:=d.out.1;have:=M.out;omega) (sX (d.out.2.2.2.2.1.ag 0 _ rfl)) d.out.2.1 d.out.2.2.1 (HH.out.below d.out.2.2.2.1) HI.out.e HJ.out (HT.out.below d.out.2.2.2.1 (aL _)) (TA W) ?hI d.out.2.2.2.2 ?F ?assign ?body ?done
 case hI=>
  rintro m w w' row ⟨c,i,q⟩ hg hr;have hz:=d.out.1;have gc:=M.out;exact⟨c.bG (hg.block _ c.lt (λe=>by have:=(hr _ e.symm).1;omega)),kz i (by omega) hg (λr e=>by have:=(hr r e).1;omega),nX q hg.size⟩
 case assign=>
  intro l m x wr K hI Q;have HK:=h_ Q;have d7:=h_ hI;clear Q hI
  gi_wp2
  exact HK.out
 case body=>
  rintro l m x wr ⟨c,i,q⟩ p;obtain⟨N,eN⟩:=x_ m.length
  rw[<-eN]at c p;have HC:=h_ (And.intro c (And.intro i q));have EN:=h_ eN;have f8:(N:Int)+1<=9223372036854775807:=by have:=bi.out;omega
  have c0:=c.ag 0 _ rfl;have f0:=c.frozen 0;clear c i q eN p
  gi_wp2
  have hc:=HC.out.1.ag 0 _ rfl;have hs:=HC.out.1.set 0 (.int .i64 ((N:Int)+1));refine⟨KeepsFrom.setCell hc,ku.To rfl hc (sX hc) (sX (hs.ag 0 _ rfl)), ?_,HC.out.2.1.trans (di (a:=⟨W.heap.size,0,none⟩) (aL _) _), ?_⟩
  ·have e:(((m++ [x]).length:Nat):Int)=(N:Int)+1:=by rw[fu,EN.out];simp
   rw[e];exact hs
  ·have:=HC.out.2.2;simpa using this
 case done=>
  rintro D xs w hD hv ⟨S,i,q⟩ Q;have c:=S.ag 0 _ rfl;have Y:xs.length=C.length:=by rw[<-mR,hv]
  rw[Y]at c;have CO:=h_ (λw' (hb:Below W.heap.size W w')=>kZ o s (j:Int) w' (HH.out.below hb) HI.out.e);rw[<-EL.out]at CO;have k3:=(HH.out.below i).bg.ag 3 _ rfl;rw[EJ.out]at k3;have Z:=h_ i;have HD:=h_ hD;have J:=h_ Q;clear S i q hv Y hD Q;go_wp2_with fail;have HQ:Hid (∀w',Below w.heap.size w w'->w'.cell? ⟨W.heap.size,0,none⟩=some (.int .i64 (C.length:Int))/\w'.cell? ⟨o.hb,3,none⟩=some (.int .i64 (j:Int))):=h_ λw' h=>⟨by rw[h.cell (World.block_lt_of_cell? w _ c)];exact c,by rw[h.cell (World.block_lt_of_cell? w _ k3)];exact k3⟩
  refine Free.ai 9 [(6, .ind (λy=> .slice (some ⟨y / 18446744073709551616,0,none⟩) L.length (y % 18446744073709551616)) (λ_ _=>True))] (λw'=>Below w.heap.size w w') (by kernel_rfl) (by kernel_rfl) ?_ (Below.refl _ _).drew (λ_ _ h g=>h.trans (Below.mono g h.size)) ?_
  ·intro j mk r hf z w1 w2 hr rr;simp only[Free.find]at hf
   repeat' split at hf
   all_goals first|(cases hf;done)|skip
   cases hf
   trivial
  simp only[eJ,dT];iterate 7 (first|(apply Free.aR (Free.wq rfl) rfl;(intro w' n O;refine Free.au (f:=53) (args:= #[.pointer (some ⟨o.hb,0,none⟩), .int .i64 (j:Int)]) (by clear n O;go_simp<;>rfl) ?_;refine(CO.out w' (Z.out.trans (n.mono Z.out.size))).mono ?_;rintro e w4 ⟨g4,c4,rfl,d8,d6,d9,f9,dl⟩;refine⟨_,rfl,dl,g4*18446744073709551616+c4, ?_,trivial⟩;unfold maxLen at d6;rw[show(g4*18446744073709551616+c4) / 18446744073709551616=g4 by omega,show(g4*18446744073709551616+c4) % 18446744073709551616=c4 by omega]))|(apply Free.ae (Free.wq rfl) rfl;(intro w' n O;cases HQ.out w' n;clear O n;go_light;go_simp<;>rfl);(try simp only[Pt])))
  intro z;simp only[Pt];iterate 2 (apply Free.ae (Free.wq rfl) rfl;(intro w' n O;cases HQ.out w' n;clear O n;go_light;go_simp<;>rfl);(try simp only[Pt]))
  apply Free.ax;intro w4 B _ _;simp only[fm,fo];have U:D<w.heap.size:=(iS.1 J.out).1;have T:w4.heap[D]? =some (.deferred (some [])):=by rw[B.block D U];exact J.out
  have G:=h_ (an.out (w4.putObj D (.deferred none)) ((C.length:Int) !=(L.length:Int)) (by rw[Px];simp;omega) (pQ (Z.out.trans (B.mono Z.out.size)) (by have c:=HD.out;have i:=d.out.1;have q:=M.out;omega)));have ci:=h_ T;clear B T U;go_wp2_with fail;exact⟨by simp, .inl ⟨_,_,rfl,run_takeDeferred ci.out,⟨_,by simp[results,Tryz.results46,go_sem],G.out⟩⟩⟩
end Go.Proofs.YtkmbmfengcdmoaaGreatDoor
namespace Go.Proofs.YtkmbmfengcdmoaaGreatDoor
open Go.RowKit Go.ay Go.Jn Go.Dk Go.Ho Go.Opn Go.Maps Go.WideMaps Go.Apl Go.Mg Go.Rf Go.Lib
attribute [local go_sem] Oper.semAt_some

theorem sY{w:World}{b base n d:Nat}{T e:TypeId}{v:Value}{f:List Value}(a:ay w b [v] T)(c:w.ownsRow base e d v n f):iI b w=v.ownBlock:=by
 unfold iI;rw[a.ag 0 _ rfl];rcases c.2 with⟨h,_⟩|⟨g,cap,cur,h,_⟩<;>rw[h]<;>rfl
theorem ku.app{b base n A t:Nat}{w j l d:World}{T e:TypeId}{v c:Value}{B m:List Value}(q:ay w b [v] T)(s:w.ownsRow base e t v n B)(p:Below w.heap.size w j)(r:j.grownBy l v.ownBlock)(i:c.ownBlock=v.ownBlock\/c.ownBlock=some j.heap.size)
  (o:d=l.setCell ⟨b,0,none⟩ c) (f:ay d b [c] T) (g:d.ownsRow base e t c A m):ku (λk=>k=b) b w d:=by
 have hz:=p.size;have y:=r.size;have z:d.heap.size=l.heap.size:=by rw[o];simp
 refine⟨by omega,λk u _ x a=> ?_, ?_⟩
 ·rw[sY q s]at a;rw[o,Below.heap_setCell _ _ _ _ (by exact x),r.block k (by omega) (λe=>a e.symm),p.block k u]
 ·rw[sY q s,sY f g];rcases i with h|h
  ·exact .inl h
  ·exact .inr ⟨_,h,hz⟩
theorem u6{B b base n y:Nat}{w m p:World}{T e:TypeId}{v:Value}{A:List Value}(t:ay w b [v] T)(u:w.ownsRow base e y v n A)(f:Below w.heap.size w m)(l:m.grownBy p v.ownBlock)(z:Value):KeepsFrom B w (p.setCell ⟨b,0,none⟩ z):=by
 have hz:=f.size;have x:=l.size;refine⟨by simp;omega,λk o _ a j=> ?_⟩;have d:k<w.heap.size:=(iS.1 a).1;have c:k≠b:=λe=>by
  rw[e,show w.heap[b]? =_ from t]at a;cases a;cases j
 rw[Below.heap_setCell _ _ _ _ (by exact c),l.block k (by omega) (λe=> ?_),f.block k d]
 ·exact a
 ·rcases u.2 with⟨h,_⟩|⟨g,q,r,h,_,i,_⟩
  ·rw[h]at e;cases e
  ·rw[h]at e;have s:k=g:=by injection e
   rw[<-s,a]at i;cases i;cases j
structure KR (W:World) {C:List aV} (pre:List (jR C)) (w:World):Prop where
 ex:∃v,ay w W.heap.size [v] 56/\w.ownsRow (W.heap.size+1) 42 7 v (cn pre).length ((cn pre).flatMap aK)
 below:Below W.heap.size W w
 lt:W.heap.size<w.heap.size
theorem KR.grow{W w w':World}{C:List aV}{a:List (jR C)}(h:KR W a w)(b:Below w.heap.size w w'):KR W a w':=by obtain⟨⟨v,c,d⟩,f,g⟩:=h;exact⟨⟨v,c.below b c.lt,bC d (λk e=>b.block k (World.ownsRow.lt d k e).2)⟩,f.trans (b.mono f.size),nX g b.size⟩
theorem KR.own{W w w':World}{B:Nat}{C:List aV}{a:List (jR C)}{row:Option Nat}(h:KR W a w)(t:W.heap.size<B)(b:w.grownBy w' row)(f:∀r,row=some r->B<=r/\∃o:Obj,w.heap[r]? =some o/\o.isCells=false):KR W a w':=by
 obtain⟨⟨v,i,c⟩,q,d⟩:=h;refine⟨⟨v,i.bG (b.block _ i.lt (λe=>by have:=(f _ e.symm).1;omega)),bC c (λk e=>b.block k (World.ownsRow.lt c k e).2 (λp=> ?_))⟩,kz q (by omega) b (λr e=>by have:=(f r e).1;omega),nX d b.size⟩;obtain⟨_,o,j,s⟩:=f _ p.symm;rcases c.2 with⟨h,_⟩|⟨g,l,m,h,_,d,_⟩
 ·rw[h]at e;cases e
 ·rw[h]at e;have n:g=k:=by injection e
  rw[<-n,d]at j;cases j;cases s
set_option maxHeartbeats 1000000 in
theorem Ae(b1 b2:Nat)(o:Lo)(s:HS)(j:Nat)(W:World)(h:HR W o s)(S:lv s)(hj:j<s.bF.length)(hT:cB W)(M:W.cell? ⟨b1,0,none⟩=some (.pointer (some ⟨o.hb,0,none⟩)))(h2:W.cell? ⟨b2,0,none⟩=some (.int .i64 (j:Int))):
  Calls Tryz.prog 127 #[.slice none 0 0, .func (.func 124) #[] #[.pointer (some ⟨b1,0,none⟩), .pointer (some ⟨b2,0,none⟩)]] W λe w'=> ∃A c,e= .returned (.slice A (bE s j).length c)/\(bE s j).length<=c/\SL w' 7 aK A (bE s j)/\((A=none/\c=0)\/∃g,A=some ⟨g,0,none⟩)/\Below W.heap.size W w':=by
 obtain⟨C,eC⟩:=x_ (bE s (j:Int))
 rw[<-eC];obtain⟨R,eR⟩:=x_ (λe w'=> ∃A c,e= .returned (.slice A C.length c)/\C.length<=c/\SL w' 7 aK A C/\((A=none/\c=0)\/∃g,A=some ⟨g,0,none⟩)/\Below W.heap.size W w':Ending->World->Prop)
 rw[<-eR];have ER:=h_ eR;have ii:Hid (C.length<=1000000):=h_ (by rw[eC];unfold bE fA bJ;rw[jQ,rm,fe];have:=gE s.aw (j:Int);have:=S.e.jX;omega);obtain⟨V,eV⟩:=x_ (W.alloc (.cells #[.slice none 0 0] 56))
 have n:Below W.heap.size W V:=by rw[eV];exact(Below.refl _ _).alloc (aL _) _
 have zV:V.heap.size=W.heap.size+1:=by rw[eV];simp
 have bi:KR W (C:=C) [] V:=⟨⟨.slice none 0 0,by rw[eV];exact ay.new W [.slice none 0 0] 56,World.ownsRow_nil _ _ _ _⟩,n,by omega⟩
 have EV:Hid (W.alloc (.cells #[.slice none 0 0] 56)=V):=h_ eV.symm;have d7:iI W.heap.size V=none:=by rw[eV];exact yU ((ay.new W [.slice none 0 0] 56).ag 0 _ rfl)
 have H1:=h_ (And.intro n (And.intro zV (And.intro bi d7)));have H2:Hid (V.cell? ⟨b1,0,none⟩=some (.pointer (some ⟨o.hb,0,none⟩))/\V.cell? ⟨b2,0,none⟩=some (.int .i64 (j:Int))/\HR V o s/\cB V):=h_ ⟨by rw[n.cell (World.block_lt_of_cell? W _ M)];exact M,by rw[n.cell (World.block_lt_of_cell? W _ h2)];exact h2,h.below n,hT.below n (aL _)⟩;have EC:=h_ eC;have HI:=h_ S;have HJ:=h_ hj;clear eR eV n zV bi d7 M h2 eC S hj h hT;refine jB 4 Tryz.func127 rfl ?_;simp only[Tryz.ntmps127,tY,kq,qA,Nat.reduceAdd,Nat.reduceSub,M0,MZ,M7,M6,xK,xC];go_wp2_with (simp only[EV.out])
 refine Du W.heap.size b1 b2 (λk=>k=W.heap.size) o s j C EC.out rfl (by have:=H1.out.2.1;omega) (λk z=>by have:=H1.out.2.1;omega) H1.out.2.2.2 H2.out.1 H2.out.2.1 H2.out.2.2.1 HI.out.e HJ.out H2.out.2.2.2 (KR W) ?hI H1.out.2.2.1 (λf W1 W2 h hb=>h.grow hb) (λf W1 h=>h.lt) ?F ?assign ?body ?done
 case hI=>
  rintro f w w' row hI hg hr;exact hI.own (by have:=H1.out.2.1;omega) hg hr
 case assign=>
  intro l f x wr K hI N;obtain⟨ab,J⟩:=x_ wr.heap.size
  obtain⟨q,d⟩:=x_ (aK x.1)
  rw[<-J]at N;have HK:=h_ N;have ge:=h_ J;have gt:=h_ d;have I:=h_ (cE q (by rw[d];rfl));have g8:Hid (∀u∈q,u.oneCell'=true):=h_ (by rw[d];exact cm x.1);have io:Hid (q.length=7):=h_ (by rw[d];rfl);rw[<-d];clear N J d hI
  gi_wp2_with (refine jU (.tmp 5) ?_;refine jt (.inr ⟨_,rfl⟩) I.out g8.out 5 7 wr (wr.alloc (.cells q.toArray 42)) wr.heap.size rfl rfl _ rfl rfl rfl rfl _ (by simp[io.out]) ?_;simp only[Pt])
  rw[<-ge.out,gt.out];exact HK.out
 case body=>
  intro l f x ab wr hI O d6;obtain⟨⟨v,z,b⟩,r,U⟩:=hI;obtain⟨q,d⟩:=x_ (aK x.1)
  rw[<-d]at O;have Q:q.length=7:=by rw[d];rfl
  have c0:=z.ag 0 _ rfl;have I:=h_ (cE q Q);have HM:Hid (wr.rangeAt ab 0 q):=h_ (rg_of O);obtain⟨iE,S,Z,y,gc⟩:=wF;have an:Hid ((Instr.buildSlice 56 1 #[(0, .agg q.toArray)]).run Tryz.prog wr= .ok (.slice (some ⟨wr.heap.size,0,none⟩) 1 1) (wr.alloc (.cells q.toArray 42))):=h_ (Apk.fj (P:=Tryz.prog) wr 56 42 iE _ Tryz.underlying56 S Z q.toArray (by rw[tY,Q,y]) (by rw[y];decide) (by rw[y];decide));obtain⟨w1,e1⟩:=x_ (wr.alloc (.cells q.toArray 42))
  rw[<-e1]at an;have m:Below wr.heap.size wr w1:=by rw[e1];exact(Below.refl _ _).alloc (aL _) _
  have p:=bC b (λk e=>m.block k (World.ownsRow.lt b k e).2);have d9:SL w1 7 aK (some ⟨wr.heap.size,0,none⟩) [x.1]:=by rw[e1];exact cO bT (ay.new wr q 42) (λj u hu=>by simpa[<-d]using hu)
  have ld:(cn f).length+1<=1000000:=by rw[mR];have:=ii.out;omega
  have hz:=m.size;have ci:=λty=>nt (P:=Tryz.prog) w1 (W.heap.size+1) 56 ty 42 iE _ 72 Tryz.underlying56 S Z y gc rfl (by decide) bT cm v (cn f).length _ p (some ⟨wr.heap.size,0,none⟩) 1 [x.1] d9 (by simp only[DT];unfold maxLen;omega) (by simp only[DT];omega) (by omega)
  obtain⟨H,w2,d8,t,i,Y⟩:=ci 56;rw[DT]at t;obtain⟨A2,c2,rfl⟩:=fG t;obtain⟨H,L⟩:=x_ (.slice A2 ((cn f).length+1) c2:Value)
  rw[<-L]at t Y;have T:=z.below m z.lt;have f9:v.ownBlock≠some W.heap.size:=λe=>by have:=(World.ownsRow.lt b _ e).1;omega
  have B:ay w2 W.heap.size [v] 56:=T.bG (i.block _ T.lt (λe=>f9 e.symm));have E:=B.set 0 H;have X:(w2.setCell ⟨W.heap.size,0,none⟩ H).ownsRow (W.heap.size+1) 42 7 H ((cn f).length+1) ((cn f).flatMap aK++ [x.1].flatMap aK):=bC t (λk e=>Below.heap_setCell _ _ _ _ (by have:=(World.ownsRow.lt t k e).1;show k≠W.heap.size;omega));have d0:=B.ag 0 _ rfl;have f0:=B.frozen 0;have dl:ku (λk=>k=W.heap.size) W.heap.size wr (w2.setCell ⟨W.heap.size,0,none⟩ H):=ku.app z b m i Y rfl E X;have co:Below W.heap.size W (w2.setCell ⟨W.heap.size,0,none⟩ H):=((r.trans (m.mono r.size)).trans ⟨i.os,i.tape,i.output,i.size,λk li=>i.block k (by omega) (λe=>by have:=(World.ownsRow.lt p _ e.symm).1;omega)⟩).trans (di (a:=⟨W.heap.size,0,none⟩) (aL _) _);have G:Hid (KR W (f++ [x]) (w2.setCell ⟨W.heap.size,0,none⟩ H)):=h_ ⟨⟨H,E,by rw[ie,fu,DU];exact X⟩,co,by have:=E.lt;exact this⟩;have i8:=h_ dl;have g7:=h_ L;have i9:=h_ d8;have ip:Hid (KeepsFrom V.heap.size wr (w2.setCell ⟨W.heap.size,0,none⟩ H)):=h_ (u6 z b m i _);clear O Q S Z y gc e1 m p d9 ld hz ci t i Y L T f9 B E X dl co d8 z b r U d6 d
  gi_wp2_with (first
   |(refine lK (.tmp 5) ?_;refine kL (.inr ⟨_,rfl⟩) rfl 42 (.tmp 5) rfl ab 0 rfl q _ HM.out Tryz.underlying42 rfl I.out ?_)
   |(refine Hi (.tmp 9) ?_;refine iZ (.inr ⟨_,rfl⟩) rfl (by intro c hc;cases hc) (Apl.fB rfl an.out) ?_;simp only[Pt])
   |(gi_at_builtin;refine iZ (.inr ⟨_,rfl⟩) rfl (by intro c hc;cases hc) (Apl.dL rfl rfl rfl i9.out) ?_;simp only[Pt]))
  rw[<-g7.out];exact⟨ip.out,i8.out,G.out⟩
 case done=>
  rintro D xs w hD hv ⟨⟨v,z,b⟩,r,U⟩ N;rw[hv]at b;obtain⟨A,c,rfl,hc,f8⟩:=gV bT b;have hA:(A=none/\c=0)\/∃g,A=some ⟨g,0,none⟩:=by
   rcases b.2 with⟨h,_⟩|⟨g,i',jp,h,_⟩
   ·injection h with M _ h3;exact .inl ⟨M,h3⟩
   ·injection h with M _ _;exact .inr ⟨g,M⟩
  have c0:=z.ag 0 _ rfl;have kw:W.heap.size<D:=by have:=H1.out.2.1;omega
  have G:Hid (R (.returned (.slice A C.length c)) (w.putObj D (.deferred none))):=h_ (by
   rw[ER.out];refine⟨A,c,rfl,hc, ?_,hA,pQ r (by omega)⟩;by_cases h0:C= []
   ·rw[h0];exact SL.nil
   ·obtain⟨g,i',jp,e,_,hg,_⟩:=tm bT b h0;injection e with e1 _ _;refine jw f8 λk e2=>World.putObj_heap_other (λe3=> ?_)
    rw[e1]at e2;have e4:g=k:=by simpa using e2
    rw[e4,e3,N]at hg;cases hg)
  have HK:=h_ N;clear z b r U f8 hc hD hv N kw;go_wp2_with fail;exact⟨by simp, .inl ⟨_,_,rfl,run_takeDeferred HK.out,⟨_,by simp[results,Tryz.results127,go_sem],G.out⟩⟩⟩
theorem yj(a b:Nat)(o:Lo)(s:HS)(j:Nat)(W:World)(h:HR W o s)(n:lv s)(p:j<s.bF.length)(k:cB W)(d:W.cell? ⟨a,0,none⟩=some (.pointer (some ⟨o.hb,0,none⟩)))(f:W.cell? ⟨b,0,none⟩=some (.int .i64 (j:Int))):
  Calls Tryz.prog 83 #[.func (.func 124) #[] #[.pointer (some ⟨a,0,none⟩), .pointer (some ⟨b,0,none⟩)]] W λe w'=> ∃A c,e= .returned (.slice A (bE s j).length c)/\(bE s j).length<=c/\SL w' 7 aK A (bE s j)/\((A=none/\c=0)\/∃g,A=some ⟨g,0,none⟩)/\Below W.heap.size W w':=by
 have r:=h_ (Ae a b o s j W h n p k d f);clear h n p k d f;go_enter Tryz.func83,Tryz.ntmps83;go_wp2_with fail;refine r.out.mono ?_;rintro e w' ⟨A,c,rfl,m,q,i,l⟩;have G:=h_ (And.intro m (And.intro q (And.intro i l)));clear m q i l;go_wp2_with fail;exact bodyPost_ret (v:= .slice A (bE s j).length c) (by simp[results,Tryz.results83,go_sem]) rfl ⟨A,c,rfl,G.out.1,G.out.2.1,G.out.2.2.1,G.out.2.2.2⟩
end Go.Proofs.YtkmbmfengcdmoaaGreatDoor
