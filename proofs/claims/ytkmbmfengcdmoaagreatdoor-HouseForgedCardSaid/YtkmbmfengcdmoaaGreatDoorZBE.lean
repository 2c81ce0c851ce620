/- Package house: slices.Collect of the entries that count. Condition: the house lies in memory; the variables of digest and strconv hold their numbers. -/
import Derived.Test.YtkmbmfengcdmoaaGreatDoorZBD
set_option maxRecDepth 100000
set_option linter.all false
namespace Go.Proofs.YtkmbmfengcdmoaaGreatDoor
open Go.RowKit Go.ay Go.Jn Go.Dk Go.Ho Go.Opn Go.Maps Go.WideMaps Go.Apl Go.Mg Go.Rf Go.Lib
attribute [local go_sem] Oper.semAt_some
structure lv (s:HS):Prop where
 e:Nc s.aw
 KH:0<=s.me
 me:s.me<s.aj
 pn:(s.pubs.length:Int)=s.aj
 KI:s.aj<=12
def gR(s:HS):Bool:= !((bE s s.me).length==(bJ s.aw s.me).length)
theorem lv.at{s:HS}(h:lv s):∃j:Nat,s.me=(j:Int)/\j<s.pubs.length:=by have h1:=h.KH;have h2:=h.me;have h3:=h.pn;exact⟨s.me.toNat,by omega,by omega⟩
theorem ku.To{X:Nat->Prop}{cb:Nat}{w:World}{v v0:Value}(hX:X cb)(h0:w.cell? ⟨cb,0,none⟩=some v0)(hn:iI cb w=none)(hn':iI cb (w.setCell ⟨cb,0,none⟩ v)=none):ku X cb w (w.setCell ⟨cb,0,none⟩ v):=
 ⟨by simp,λk hk _ hx _=>Below.heap_setCell _ _ _ _ (λe=>hx (by subst e;exact hX)), .inl (by rw[hn,hn'])⟩
theorem KeepsFrom.setCell{B:Nat}{w:World}{a:Addr}{v v0:Value}(h:w.cell? a=some v0):KeepsFrom B w (w.setCell a v):=
 ⟨by simp,λk o hk ho hc=>by
  by_cases e:k=a.block
  ·obtain⟨c,t,f,hcl⟩:=Ht h;rw[<-e,ho]at hcl;cases hcl;cases hc
  ·rw[Below.heap_setCell _ _ _ _ (by exact e)];exact ho⟩
theorem pQ{B D:Nat}{V w:World}{o:Obj}(h:Below B V w)(hD:B<=D):Below B V (w.putObj D o):=
 ⟨h.os,h.tape,h.output,by simpa[World.putObj]using h.size,λk hk=>by rw[World.putObj_heap_other (by omega)];exact h.block k hk⟩
theorem sX{b:Nat}{w:World}{i:Int}{k:IntKind}(h:w.cell? ⟨b,0,none⟩=some (.int k i)):iI b w=none:=by unfold iI;rw[h]
theorem yU{b:Nat}{w:World}{n c:Nat}(h:w.cell? ⟨b,0,none⟩=some (.slice none n c)):iI b w=none:=by unfold iI;rw[h]
theorem sK{w w':World}{row:Option Nat}{a:Addr}{v:Value}(h:w.cell? a=some v)(hg:w.grownBy w' row)(hr:some a.block≠row):w'.cell? a=some v:=by rw[World.cell?_of_block (hg.block _ (World.block_lt_of_cell? w _ h) hr)];exact h
theorem kz{w w':World}{B:Nat}{row:Option Nat}{V:World}(h:Below B V w)(hB:B<=w.heap.size)(hg:w.grownBy w' row)(hr:∀r,row=some r->B<=r):Below B V w':=
 h.trans ⟨hg.os,hg.tape,hg.output,hg.size,λk hk=>hg.block k (by omega) (λe=>by have:=hr k e.symm;omega)⟩
def TA(W:World){C:List aV}(pre:List (jR C))(w:World):Prop:=ay w W.heap.size [.int .i64 (pre.length:Int)] 3/\Below W.heap.size W w/\W.heap.size<w.heap.size
theorem di{w:World}{B:Nat}{a:Addr}(h:B<=a.block)(u:Value):Below B w (w.setCell a u):=⟨rfl,rfl,rfl,by simp[World.setCell],λk hk=>Below.heap_setCell _ _ _ _ (by omega)⟩
set_option maxHeartbeats 1000000 in
theorem sH(o:Lo)(s:HS)(W:World)(h:HR W o s)(hi:lv s)(hT:cB W):Calls Tryz.prog 46 #[.pointer (some ⟨o.hb,0,none⟩)] W λe w'=>e= .returned (.bool (gR s))/\Below W.heap.size W w':=by
 obtain⟨R,eR⟩:=x_ (λe w'=>e= .returned (.bool (gR s))/\Below W.heap.size W w':Ending->World->Prop)
 rw[<-eR];obtain⟨j,ej,hj⟩:=hi.at;obtain⟨C,eC⟩:=x_ (bE s (j:Int))
 obtain⟨L,eL⟩:=x_ (bJ s.aw (j:Int))
 have FIN:Hid (∀w' v,v=(!(C.length==L.length))->Below W.heap.size W w'->R (.returned (.bool v)) w'):=h_ λw' v hv hb=>by
  rw[eR,hv,eC,eL];unfold gR;rw[ej];exact⟨rfl,hb⟩
 have c3:=h.bg.ag 3 _ rfl;rw[ej]at c3;have HH:=h_ h;have HI:=h_ hi;have HT:=h_ hT;have EC:=h_ eC;have EL:=h_ eL;have HJ:=h_ hj;have EJ:=h_ ej;have HCF:Hid (C.length<=1000000):=h_ (by rw[eC];unfold bE fA bJ;rw[jQ,rm,fe];have:=gE s.aw (j:Int);have:=hi.e.jX;omega);have hlt:=h.bg.lt;clear eR h hi hT ej eC eL hj;obtain⟨V,eV⟩:=x_ (W.alloc (.cells #[.int .i64 0] 3))
 have hbV:Below W.heap.size W V:=by rw[eV];exact(Below.refl _ _).alloc (aL _) _
 have zV:V.heap.size=W.heap.size+1:=by rw[eV];simp
 have cV:ay V W.heap.size [.int .i64 0] 3:=by rw[eV];exact ay.new W [.int .i64 0] 3
 have c3V:(W.alloc (.cells #[.int .i64 0] 3)).cell? ⟨o.hb,3,none⟩=some (.int .i64 (j:Int)):=by rw[<-eV,hbV.cell (by exact hlt)];exact c3
 have EV:Hid (W.alloc (.cells #[.int .i64 0] 3)=V):=h_ eV.symm;have HBV:=h_ hbV;have ZV:=h_ zV;have CV:=h_ cV;clear eV hbV c3 zV hlt;refine jB 4 Tryz.func46 rfl ?_;simp only[Tryz.ntmps46,tY,kq,qA,Nat.reduceAdd,Nat.reduceSub,M0,MZ,M7,M6,xK,xC];go_wp2_with fail;rw[EV.out];refine(lP o.hb (j:Int) V).mono ?_;rintro e w' ⟨rfl,rfl⟩;obtain⟨V2,eV2⟩:=x_ ((V.alloc (.cells #[.pointer (some ⟨o.hb,0,none⟩)] 50)).alloc (.cells #[.int .i64 (j:Int)] 3))
 have hb2:Below V.heap.size V V2:=by rw[eV2];exact((Below.refl _ _).alloc (aL _) _).alloc (by simp) _
 have z2:V2.heap.size=V.heap.size+2:=by rw[eV2];simp
 have d1:V2.cell? ⟨V.heap.size,0,none⟩=some (.pointer (some ⟨o.hb,0,none⟩)):=by rw[eV2];exact((ay.new V [.pointer (some ⟨o.hb,0,none⟩)] 50).alloc _).ag 0 _ rfl
 have d2:V2.cell? ⟨V.heap.size+1,0,none⟩=some (.int .i64 (j:Int)):=by rw[eV2];exact(ay.made (l:= [.int .i64 (j:Int)]) (by simp) rfl).ag 0 _ rfl
 have hbW:Below W.heap.size W V2:=HBV.out.trans (hb2.mono HBV.out.size);have hI0:TA W (C:=C) [] V2:=⟨CV.out.below hb2 CV.out.lt,hbW,by have:=ZV.out;omega⟩
 have H2:=h_ (And.intro z2 (And.intro d1 (And.intro d2 (And.intro hbW hI0))));rw[<-eV2];clear eV2 hb2 z2 d1 d2 hbW hI0 cV c3V;go_wp2_with fail;refine Mz W.heap.size V.heap.size (V.heap.size+1) (λk=>k=W.heap.size) o s j C EC.out rfl (by have:=H2.out.1;have:=ZV.out;omega) (λk hk=>by have:=H2.out.1;have:=ZV.out;omega) (sX (H2.out.2.2.2.2.1.ag 0 _ rfl)) H2.out.2.1 H2.out.2.2.1 (HH.out.below H2.out.2.2.2.1) HI.out.e HJ.out (HT.out.below H2.out.2.2.2.1 (aL _)) (TA W) ?hI H2.out.2.2.2.2 ?F ?assign ?body ?done
 case hI=>
  rintro pre w w' row ⟨h1,h2,h3⟩ hg hr;have hz:=H2.out.1;have hz2:=ZV.out;exact⟨h1.bG (hg.block _ h1.lt (λe=>by have:=(hr _ e.symm).1;omega)),kz h2 (by omega) hg (λr e=>by have:=(hr r e).1;omega),nX h3 hg.size⟩
 case assign=>
  intro l pre x wr K hI hK;have HK:=h_ hK;have HII:=h_ hI;clear hK hI
  gi_wp2
  exact HK.out
 case body=>
  rintro l pre x wr ⟨h1,h2,h3⟩ hlen;obtain⟨N,eN⟩:=x_ pre.length
  rw[<-eN]at h1 hlen;have HC:=h_ (And.intro h1 (And.intro h2 h3));have EN:=h_ eN;have hpl:(N:Int)+1<=9223372036854775807:=by have:=HCF.out;omega
  have c0:=h1.ag 0 _ rfl;have f0:=h1.frozen 0;clear h1 h2 h3 eN hlen
  gi_wp2
  have hc:=HC.out.1.ag 0 _ rfl;have hs:=HC.out.1.set 0 (.int .i64 ((N:Int)+1));refine⟨KeepsFrom.setCell hc,ku.To rfl hc (sX hc) (sX (hs.ag 0 _ rfl)), ?_,HC.out.2.1.trans (di (a:=⟨W.heap.size,0,none⟩) (aL _) _), ?_⟩
  ·have e:(((pre++ [x]).length:Nat):Int)=(N:Int)+1:=by rw[fu,EN.out];simp
   rw[e];exact hs
  ·have:=HC.out.2.2;simpa using this
 case done=>
  rintro D xs w hD hv ⟨hk1,h2,h3⟩ hK;have h1:=hk1.ag 0 _ rfl;have hxl:xs.length=C.length:=by rw[<-mR,hv]
  rw[hxl]at h1;have CO:=h_ (λw' (hb:Below W.heap.size W w')=>kZ o s (j:Int) w' (HH.out.below hb) HI.out.e);rw[<-EL.out]at CO;have k3:=(HH.out.below h2).bg.ag 3 _ rfl;rw[EJ.out]at k3;have HB:=h_ h2;have HD:=h_ hD;have HKD:=h_ hK;clear hk1 h2 h3 hv hxl hD hK;go_wp2_with fail;have HQ:Hid (∀w',Below w.heap.size w w'->w'.cell? ⟨W.heap.size,0,none⟩=some (.int .i64 (C.length:Int))/\w'.cell? ⟨o.hb,3,none⟩=some (.int .i64 (j:Int))):=h_ λw' h=>⟨by rw[h.cell (World.block_lt_of_cell? w _ h1)];exact h1,by rw[h.cell (World.block_lt_of_cell? w _ k3)];exact k3⟩
  refine Free.ai 9 [(6, .ind (λy=> .slice (some ⟨y / 18446744073709551616,0,none⟩) L.length (y % 18446744073709551616)) (λ_ _=>True))] (λw'=>Below w.heap.size w w') (by kernel_rfl) (by kernel_rfl) ?_ (Below.refl _ _).drew (λ_ _ h g=>h.trans (Below.mono g h.size)) ?_
  ·intro j mk r hf z w1 w2 hr rr;simp only[Free.find]at hf
   repeat' split at hf
   all_goals first|(cases hf;done)|skip
   cases hf
   trivial
  simp only[eJ,dT];iterate 7 (first|(apply Free.aR (Free.wq rfl) rfl;(intro w' hB hA;refine Free.au (f:=53) (args:= #[.pointer (some ⟨o.hb,0,none⟩), .int .i64 (j:Int)]) (by clear hB hA;go_simp<;>rfl) ?_;refine(CO.out w' (HB.out.trans (hB.mono HB.out.size))).mono ?_;rintro e w4 ⟨g4,c4,rfl,hc4,hm4,ho4,hs4,hb4⟩;refine⟨_,rfl,hb4,g4*18446744073709551616+c4, ?_,trivial⟩;unfold maxLen at hm4;rw[show(g4*18446744073709551616+c4) / 18446744073709551616=g4 by omega,show(g4*18446744073709551616+c4) % 18446744073709551616=c4 by omega]))|(apply Free.ae (Free.wq rfl) rfl;(intro w' hB hA;cases HQ.out w' hB;clear hA hB;go_light;go_simp<;>rfl);(try simp only[Pt])))
  intro z;simp only[Pt];iterate 2 (apply Free.ae (Free.wq rfl) rfl;(intro w' hB hA;cases HQ.out w' hB;clear hA hB;go_light;go_simp<;>rfl);(try simp only[Pt]))
  apply Free.ax;intro w4 hw4 _ _;simp only[fm,fo];have hlD:D<w.heap.size:=(iS.1 HKD.out).1;have hk4:w4.heap[D]? =some (.deferred (some [])):=by rw[hw4.block D hlD];exact HKD.out
  have G:=h_ (FIN.out (w4.putObj D (.deferred none)) ((C.length:Int) !=(L.length:Int)) (by rw[Px];simp;omega) (pQ (HB.out.trans (hw4.mono HB.out.size)) (by have h1:=HD.out;have h2:=H2.out.1;have h3:=ZV.out;omega)));have HK4:=h_ hk4;clear hw4 hk4 hlD;go_wp2_with fail;exact⟨by simp, .inl ⟨_,_,rfl,run_takeDeferred HK4.out,⟨_,by simp[results,Tryz.results46,go_sem],G.out⟩⟩⟩
end Go.Proofs.YtkmbmfengcdmoaaGreatDoor
namespace Go.Proofs.YtkmbmfengcdmoaaGreatDoor
open Go.RowKit Go.ay Go.Jn Go.Dk Go.Ho Go.Opn Go.Maps Go.WideMaps Go.Apl Go.Mg Go.Rf Go.Lib
attribute [local go_sem] Oper.semAt_some

theorem sY{w:World}{b base n sz:Nat}{T e:TypeId}{v:Value}{xs:List Value}(hb:ay w b [v] T)(ho:w.ownsRow base e sz v n xs):iI b w=v.ownBlock:=by
 unfold iI;rw[hb.ag 0 _ rfl];rcases ho.2 with⟨h,_⟩|⟨g,cap,cur,h,_⟩<;>rw[h]<;>rfl
theorem ku.app{b base n n' sz:Nat}{w w1 w2 w3:World}{T e:TypeId}{v v':Value}{xs xs':List Value}(hb:ay w b [v] T)(ho:w.ownsRow base e sz v n xs)(h1:Below w.heap.size w w1)(hg:w1.grownBy w2 v.ownBlock)(hv':v'.ownBlock=v.ownBlock\/v'.ownBlock=some w1.heap.size)
  (e3:w3=w2.setCell ⟨b,0,none⟩ v') (hb3:ay w3 b [v'] T) (ho3:w3.ownsRow base e sz v' n' xs'):ku (λk=>k=b) b w w3:=by
 have hz:=h1.size;have hz2:=hg.size;have hz3:w3.heap.size=w2.heap.size:=by rw[e3];simp
 refine⟨by omega,λk hk _ hx hb'=> ?_, ?_⟩
 ·rw[sY hb ho]at hb';rw[e3,Below.heap_setCell _ _ _ _ (by exact hx),hg.block k (by omega) (λe=>hb' e.symm),h1.block k hk]
 ·rw[sY hb ho,sY hb3 ho3];rcases hv' with h|h
  ·exact .inl h
  ·exact .inr ⟨_,h,hz⟩
theorem u6{B b base n sz:Nat}{w w1 w2:World}{T e:TypeId}{v:Value}{xs:List Value}(hb:ay w b [v] T)(ho:w.ownsRow base e sz v n xs)(h1:Below w.heap.size w w1)(hg:w1.grownBy w2 v.ownBlock)(v2:Value):KeepsFrom B w (w2.setCell ⟨b,0,none⟩ v2):=by
 have hz:=h1.size;have hz2:=hg.size;refine⟨by simp;omega,λk o _ hk hc=> ?_⟩;have hlt:k<w.heap.size:=(iS.1 hk).1;have hkb:k≠b:=λe=>by
  rw[e,show w.heap[b]? =_ from hb]at hk;cases hk;cases hc
 rw[Below.heap_setCell _ _ _ _ (by exact hkb),hg.block k (by omega) (λe=> ?_),h1.block k hlt]
 ·exact hk
 ·rcases ho.2 with⟨h,_⟩|⟨g,cap,cur,h,_,h4,_⟩
  ·rw[h]at e;cases e
  ·rw[h]at e;have e':k=g:=by injection e
   rw[<-e',hk]at h4;cases h4;cases hc
structure KR (W:World) {C:List aV} (pre:List (jR C)) (w:World):Prop where
 ex:∃v,ay w W.heap.size [v] 56/\w.ownsRow (W.heap.size+1) 42 7 v (cn pre).length ((cn pre).flatMap aK)
 below:Below W.heap.size W w
 lt:W.heap.size<w.heap.size
theorem KR.grow{W w w':World}{C:List aV}{pre:List (jR C)}(h:KR W pre w)(hb:Below w.heap.size w w'):KR W pre w':=by obtain⟨⟨v,h1,h2⟩,h3,h4⟩:=h;exact⟨⟨v,h1.below hb h1.lt,bC h2 (λk e=>hb.block k (World.ownsRow.lt h2 k e).2)⟩,h3.trans (hb.mono h3.size),nX h4 hb.size⟩
theorem KR.own{W w w':World}{B:Nat}{C:List aV}{pre:List (jR C)}{row:Option Nat}(h:KR W pre w)(hB:W.heap.size<B)(hg:w.grownBy w' row)(hr:∀r,row=some r->B<=r/\∃o:Obj,w.heap[r]? =some o/\o.isCells=false):KR W pre w':=by
 obtain⟨⟨v,h1,h2⟩,h3,h4⟩:=h;refine⟨⟨v,h1.bG (hg.block _ h1.lt (λe=>by have:=(hr _ e.symm).1;omega)),bC h2 (λk e=>hg.block k (World.ownsRow.lt h2 k e).2 (λe2=> ?_))⟩,kz h3 (by omega) hg (λr e=>by have:=(hr r e).1;omega),nX h4 hg.size⟩;obtain⟨_,o,ho,hc⟩:=hr _ e2.symm;rcases h2.2 with⟨h,_⟩|⟨g,cap,cur,h,_,h4,_⟩
 ·rw[h]at e;cases e
 ·rw[h]at e;have e':g=k:=by injection e
  rw[<-e',h4]at ho;cases ho;cases hc
set_option maxHeartbeats 1000000 in
theorem Ae(b1 b2:Nat)(o:Lo)(s:HS)(j:Nat)(W:World)(h:HR W o s)(hi:lv s)(hj:j<s.pubs.length)(hT:cB W)(h1:W.cell? ⟨b1,0,none⟩=some (.pointer (some ⟨o.hb,0,none⟩)))(h2:W.cell? ⟨b2,0,none⟩=some (.int .i64 (j:Int))):
  Calls Tryz.prog 127 #[.slice none 0 0, .func (.func 124) #[] #[.pointer (some ⟨b1,0,none⟩), .pointer (some ⟨b2,0,none⟩)]] W λe w'=> ∃A c,e= .returned (.slice A (bE s j).length c)/\(bE s j).length<=c/\SL w' 7 aK A (bE s j)/\((A=none/\c=0)\/∃g,A=some ⟨g,0,none⟩)/\Below W.heap.size W w':=by
 obtain⟨C,eC⟩:=x_ (bE s (j:Int))
 rw[<-eC];obtain⟨R,eR⟩:=x_ (λe w'=> ∃A c,e= .returned (.slice A C.length c)/\C.length<=c/\SL w' 7 aK A C/\((A=none/\c=0)\/∃g,A=some ⟨g,0,none⟩)/\Below W.heap.size W w':Ending->World->Prop)
 rw[<-eR];have ER:=h_ eR;have HCF:Hid (C.length<=1000000):=h_ (by rw[eC];unfold bE fA bJ;rw[jQ,rm,fe];have:=gE s.aw (j:Int);have:=hi.e.jX;omega);obtain⟨V,eV⟩:=x_ (W.alloc (.cells #[.slice none 0 0] 56))
 have hbV:Below W.heap.size W V:=by rw[eV];exact(Below.refl _ _).alloc (aL _) _
 have zV:V.heap.size=W.heap.size+1:=by rw[eV];simp
 have hI0:KR W (C:=C) [] V:=⟨⟨.slice none 0 0,by rw[eV];exact ay.new W [.slice none 0 0] 56,World.ownsRow_nil _ _ _ _⟩,hbV,by omega⟩
 have EV:Hid (W.alloc (.cells #[.slice none 0 0] 56)=V):=h_ eV.symm;have hob:iI W.heap.size V=none:=by rw[eV];exact yU ((ay.new W [.slice none 0 0] 56).ag 0 _ rfl)
 have H1:=h_ (And.intro hbV (And.intro zV (And.intro hI0 hob)));have H2:Hid (V.cell? ⟨b1,0,none⟩=some (.pointer (some ⟨o.hb,0,none⟩))/\V.cell? ⟨b2,0,none⟩=some (.int .i64 (j:Int))/\HR V o s/\cB V):=h_ ⟨by rw[hbV.cell (World.block_lt_of_cell? W _ h1)];exact h1,by rw[hbV.cell (World.block_lt_of_cell? W _ h2)];exact h2,h.below hbV,hT.below hbV (aL _)⟩;have EC:=h_ eC;have HI:=h_ hi;have HJ:=h_ hj;clear eR eV hbV zV hI0 hob h1 h2 eC hi hj h hT;refine jB 4 Tryz.func127 rfl ?_;simp only[Tryz.ntmps127,tY,kq,qA,Nat.reduceAdd,Nat.reduceSub,M0,MZ,M7,M6,xK,xC];go_wp2_with (simp only[EV.out])
 refine Du W.heap.size b1 b2 (λk=>k=W.heap.size) o s j C EC.out rfl (by have:=H1.out.2.1;omega) (λk hk=>by have:=H1.out.2.1;omega) H1.out.2.2.2 H2.out.1 H2.out.2.1 H2.out.2.2.1 HI.out.e HJ.out H2.out.2.2.2 (KR W) ?hI H1.out.2.2.1 (λpre W1 W2 h hb=>h.grow hb) (λpre W1 h=>h.lt) ?F ?assign ?body ?done
 case hI=>
  rintro pre w w' row hI hg hr;exact hI.own (by have:=H1.out.2.1;omega) hg hr
 case assign=>
  intro l pre x wr K hI hK;obtain⟨ab,eab⟩:=x_ wr.heap.size
  obtain⟨cs,ecs⟩:=x_ (aK x.1)
  rw[<-eab]at hK;have HK:=h_ hK;have EAB:=h_ eab;have ECS:=h_ ecs;have HCI:=h_ (cE cs (by rw[ecs];rfl));have HC1:Hid (∀u∈cs,u.oneCell'=true):=h_ (by rw[ecs];exact cm x.1);have HCL:Hid (cs.length=7):=h_ (by rw[ecs];rfl);rw[<-ecs];clear hK eab ecs hI
  gi_wp2_with (refine jU (.tmp 5) ?_;refine jt (.inr ⟨_,rfl⟩) HCI.out HC1.out 5 7 wr (wr.alloc (.cells cs.toArray 42)) wr.heap.size rfl rfl _ rfl rfl rfl rfl _ (by simp[HCL.out]) ?_;simp only[Pt])
  rw[<-EAB.out,ECS.out];exact HK.out
 case body=>
  intro l pre x ab wr hI hab hlen;obtain⟨⟨v,hk,hown⟩,hbl,hlt⟩:=hI;obtain⟨cs,ecs⟩:=x_ (aK x.1)
  rw[<-ecs]at hab;have hcl:cs.length=7:=by rw[ecs];rfl
  have c0:=hk.ag 0 _ rfl;have HCI:=h_ (cE cs hcl);have HM:Hid (wr.rangeAt ab 0 cs):=h_ (rg_of hab);obtain⟨iE,hi,hz0,hz1,hz2⟩:=wF;have HBS:Hid ((Instr.buildSlice 56 1 #[(0, .agg cs.toArray)]).run Tryz.prog wr= .ok (.slice (some ⟨wr.heap.size,0,none⟩) 1 1) (wr.alloc (.cells cs.toArray 42))):=h_ (Apk.fj (P:=Tryz.prog) wr 56 42 iE _ Tryz.underlying56 hi hz0 cs.toArray (by rw[tY,hcl,hz1]) (by rw[hz1];decide) (by rw[hz1];decide));obtain⟨w1,e1⟩:=x_ (wr.alloc (.cells cs.toArray 42))
  rw[<-e1]at HBS;have hb1:Below wr.heap.size wr w1:=by rw[e1];exact(Below.refl _ _).alloc (aL _) _
  have hown1:=bC hown (λk e=>hb1.block k (World.ownsRow.lt hown k e).2);have hs1:SL w1 7 aK (some ⟨wr.heap.size,0,none⟩) [x.1]:=by rw[e1];exact cO bT (ay.new wr cs 42) (λj u hu=>by simpa[<-ecs]using hu)
  have hpl:(cn pre).length+1<=1000000:=by rw[mR];have:=HCF.out;omega
  have hz:=hb1.size;have hap:=λty=>nt (P:=Tryz.prog) w1 (W.heap.size+1) 56 ty 42 iE _ 72 Tryz.underlying56 hi hz0 hz1 hz2 rfl (by decide) bT cm v (cn pre).length _ hown1 (some ⟨wr.heap.size,0,none⟩) 1 [x.1] hs1 (by simp only[DT];unfold maxLen;omega) (by simp only[DT];omega) (by omega)
  obtain⟨v2,w2,hr2,ho2,hg2,hv2⟩:=hap 56;rw[DT]at ho2;obtain⟨A2,c2,rfl⟩:=fG ho2;obtain⟨v2,ev2⟩:=x_ (.slice A2 ((cn pre).length+1) c2:Value)
  rw[<-ev2]at ho2 hv2;have hk1:=hk.below hb1 hk.lt;have hvb:v.ownBlock≠some W.heap.size:=λe=>by have:=(World.ownsRow.lt hown _ e).1;omega
  have hk2:ay w2 W.heap.size [v] 56:=hk1.bG (hg2.block _ hk1.lt (λe=>hvb e.symm));have hk3:=hk2.set 0 v2;have ho3:(w2.setCell ⟨W.heap.size,0,none⟩ v2).ownsRow (W.heap.size+1) 42 7 v2 ((cn pre).length+1) ((cn pre).flatMap aK++ [x.1].flatMap aK):=bC ho2 (λk e=>Below.heap_setCell _ _ _ _ (by have:=(World.ownsRow.lt ho2 k e).1;show k≠W.heap.size;omega));have d0:=hk2.ag 0 _ rfl;have f0:=hk2.frozen 0;have hkp:ku (λk=>k=W.heap.size) W.heap.size wr (w2.setCell ⟨W.heap.size,0,none⟩ v2):=ku.app hk hown hb1 hg2 hv2 rfl hk3 ho3;have hbW:Below W.heap.size W (w2.setCell ⟨W.heap.size,0,none⟩ v2):=((hbl.trans (hb1.mono hbl.size)).trans ⟨hg2.os,hg2.tape,hg2.output,hg2.size,λk hk'=>hg2.block k (by omega) (λe=>by have:=(World.ownsRow.lt hown1 _ e.symm).1;omega)⟩).trans (di (a:=⟨W.heap.size,0,none⟩) (aL _) _);have G:Hid (KR W (pre++ [x]) (w2.setCell ⟨W.heap.size,0,none⟩ v2)):=h_ ⟨⟨v2,hk3,by rw[ie,fu,DU];exact ho3⟩,hbW,by have:=hk3.lt;exact this⟩;have HKP:=h_ hkp;have EV2:=h_ ev2;have HR2:=h_ hr2;have HKF:Hid (KeepsFrom V.heap.size wr (w2.setCell ⟨W.heap.size,0,none⟩ v2)):=h_ (u6 hk hown hb1 hg2 _);clear hab hcl hi hz0 hz1 hz2 e1 hb1 hown1 hs1 hpl hz hap ho2 hg2 hv2 ev2 hk1 hvb hk2 hk3 ho3 hkp hbW hr2 hk hown hbl hlt hlen ecs
  gi_wp2_with (first
   |(refine lK (.tmp 5) ?_;refine kL (.inr ⟨_,rfl⟩) rfl 42 (.tmp 5) rfl ab 0 rfl cs _ HM.out Tryz.underlying42 rfl HCI.out ?_)
   |(refine Hi (.tmp 9) ?_;refine iZ (.inr ⟨_,rfl⟩) rfl (by intro c hc;cases hc) (Apl.fB rfl HBS.out) ?_;simp only[Pt])
   |(gi_at_builtin;refine iZ (.inr ⟨_,rfl⟩) rfl (by intro c hc;cases hc) (Apl.dL rfl rfl rfl HR2.out) ?_;simp only[Pt]))
  rw[<-EV2.out];exact⟨HKF.out,HKP.out,G.out⟩
 case done=>
  rintro D xs w hD hv ⟨⟨v,hk,hown⟩,hbl,hlt⟩ hK;rw[hv]at hown;obtain⟨A,c,rfl,hc,hsl⟩:=gV bT hown;have hA:(A=none/\c=0)\/∃g,A=some ⟨g,0,none⟩:=by
   rcases hown.2 with⟨h,_⟩|⟨g,cap,cur,h,_⟩
   ·injection h with h1 _ h3;exact .inl ⟨h1,h3⟩
   ·injection h with h1 _ _;exact .inr ⟨g,h1⟩
  have c0:=hk.ag 0 _ rfl;have hDW:W.heap.size<D:=by have:=H1.out.2.1;omega
  have G:Hid (R (.returned (.slice A C.length c)) (w.putObj D (.deferred none))):=h_ (by
   rw[ER.out];refine⟨A,c,rfl,hc, ?_,hA,pQ hbl (by omega)⟩;by_cases h0:C= []
   ·rw[h0];exact SL.nil
   ·obtain⟨g,cap,cur,e,_,hg,_⟩:=tm bT hown h0;injection e with e1 _ _;refine jw hsl λk e2=>World.putObj_heap_other (λe3=> ?_)
    rw[e1]at e2;have e4:g=k:=by simpa using e2
    rw[e4,e3,hK]at hg;cases hg)
  have HK:=h_ hK;clear hk hown hbl hlt hsl hc hD hv hK hDW;go_wp2_with fail;exact⟨by simp, .inl ⟨_,_,rfl,run_takeDeferred HK.out,⟨_,by simp[results,Tryz.results127,go_sem],G.out⟩⟩⟩
theorem yj(b1 b2:Nat)(o:Lo)(s:HS)(j:Nat)(W:World)(h:HR W o s)(hi:lv s)(hj:j<s.pubs.length)(hT:cB W)(h1:W.cell? ⟨b1,0,none⟩=some (.pointer (some ⟨o.hb,0,none⟩)))(h2:W.cell? ⟨b2,0,none⟩=some (.int .i64 (j:Int))):
  Calls Tryz.prog 83 #[.func (.func 124) #[] #[.pointer (some ⟨b1,0,none⟩), .pointer (some ⟨b2,0,none⟩)]] W λe w'=> ∃A c,e= .returned (.slice A (bE s j).length c)/\(bE s j).length<=c/\SL w' 7 aK A (bE s j)/\((A=none/\c=0)\/∃g,A=some ⟨g,0,none⟩)/\Below W.heap.size W w':=by
 have CA:=h_ (Ae b1 b2 o s j W h hi hj hT h1 h2);clear h hi hj hT h1 h2;go_enter Tryz.func83,Tryz.ntmps83;go_wp2_with fail;refine CA.out.mono ?_;rintro e w' ⟨A,c,rfl,hc,hs,hA,hb⟩;have G:=h_ (And.intro hc (And.intro hs (And.intro hA hb)));clear hc hs hA hb;go_wp2_with fail;exact bodyPost_ret (v:= .slice A (bE s j).length c) (by simp[results,Tryz.results83,go_sem]) rfl ⟨A,c,rfl,G.out.1,G.out.2.1,G.out.2.2.1,G.out.2.2.2⟩
end Go.Proofs.YtkmbmfengcdmoaaGreatDoor
