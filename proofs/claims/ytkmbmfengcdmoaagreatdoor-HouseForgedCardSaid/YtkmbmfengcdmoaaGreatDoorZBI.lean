/- Package house: Files. Condition: the variables of digest and strconv hold their values. -/
import Derived.Test.YtkmbmfengcdmoaaGreatDoorZBG
import Derived.Test.YtkmbmfengcdmoaaGreatDoorPa2
import Derived.Test.YtkmbmfengcdmoaaGreatDoorZAS
import Derived.Test.YtkmbmfengcdmoaaGreatDoorZBH
import Derived.Test.YtkmbmfengcdmoaaGreatDoorZBF
import Derived.Shelf.SlSortCmp.WholeK
import Derived.Shelf.SlSortCmp.NoneTotal
set_option maxRecDepth 100000
set_option linter.all false
namespace Go.Proofs.YtkmbmfengcdmoaaGreatDoor
open Go.Pa Go.RowKit Go.ay Go.Jn Go.Dk Go.Ho Go.Opn Go.Maps Go.WideMaps Go.Apl Go.Mg Go.Rf Go.Lib Go.Sg
attribute [local go_sem] Oper.semAt_some

theorem Ow{x t:List UInt8}(h:(32:UInt8)∉x):Lib.cut (x++32::t) [32]=(x,t,true):=by
 rcases qi (x++32::t)with⟨_,h2⟩|⟨p,r,h1,h2,h3⟩
 ·exact absurd (by simp) h2
 ·obtain⟨e1,e2⟩:=iy h h2 h1;subst e1;subst e2;unfold Lib.cut;rw[h3,if_pos (by omega)];have e1:((x.length:Int)).toNat=x.length:=by omega
  rw[e1];simp
structure Ng (b4 b5:Nat) (t:List UInt8) (w:World):Prop where
 r:ay w b4 [.string ⟨t.toArray⟩] 9
 k:ay w b5 [.bool true] 4
theorem Ng.below{b4 b5:Nat}{t:List UInt8}{w w':World}(h:Ng b4 b5 t w)(hb:Below w.heap.size w w'):Ng b4 b5 t w':=⟨h.r.below hb h.r.lt,h.k.below hb h.k.lt⟩
set_option maxHeartbeats 1000000 in
theorem Ji(b4 b5:Nat)(hne:b4≠b5)(n:Int)(t:List UInt8)(w:World)(h:Ng b4 b5 (Lib.itoa n++32::t) w)(h0: -9223372036854775808<=n)(h1:n<=9223372036854775807)(hl:t.length<=4000000000)(hE:gK w):
  Calls Tryz.prog 108 #[.pointer (some ⟨b4,0,none⟩), .pointer (some ⟨b5,0,none⟩)] w λe w'=>e= .returned (.int .i64 n)/\Ng b4 b5 t w'/\aJ (λk=>k=b4\/k=b5) w w':=by
 obtain⟨R,eR⟩:=x_ (λe w'=>e= .returned (.int .i64 n)/\Ng b4 b5 t w'/\aJ (λk=>k=b4\/k=b5) w w':Ending->World->Prop)
 rw[<-eR];have hil:(Lib.itoa n).length<=21:=by have:=rG h0 h1;rw[pX]at this;exact this
 have C1:=Ct (Lib.itoa n++32::t) w (by simp;omega) hE;rw[Ow (cN n)]at C1;have C2:=λw'=>rD (Lib.itoa n) n w' (by omega) (uJ n h0 h1)
 obtain⟨x,ex⟩:=x_ (Lib.itoa n)
 rw[<-ex]at C1 C2 h;obtain⟨u,eu⟩:=x_ (⟨(x++32::t).toArray⟩:ByteArray)
 obtain⟨tt,ett⟩:=x_ (⟨t.toArray⟩:ByteArray)
 obtain⟨xx,exx⟩:=x_ (⟨x.toArray⟩:ByteArray)
 have FIN:Hid (∀w1,Below w.heap.size w w1->R (.returned (.int .i64 n)) ((w1.setCell ⟨b5,0,none⟩ (.bool true)).setCell ⟨b4,0,none⟩ (.string tt))):=h_ λw1 hb=>by
  rw[eR,ett];have h2:=h.below hb;refine⟨rfl,⟨?_, ?_⟩,((aJ.aY hb).setCell (p:=⟨b5,0,none⟩) (λ_=> .inr rfl) _).setCell (p:=⟨b4,0,none⟩) (λ_=> .inl rfl) _⟩
  ·exact(h2.r.bG (Below.heap_setCell _ _ _ _ (by exact hne))).set 0 _
  ·exact(h2.k.set 0 (.bool true)).bG (Below.heap_setCell _ _ _ _ (by exact hne.symm))
 have HQ:Hid (∀w',Below w.heap.size w w'->w'.cell? ⟨b4,0,none⟩=some (.string u)/\w'.cell? ⟨b5,0,none⟩=some (.bool true)/\w'.frozen? ⟨b4,0,none⟩=false/\w'.frozen? ⟨b5,0,none⟩=false):=h_ λw' hb=>by
  rw[eu];exact⟨(h.below hb).r.ag 0 _ rfl,(h.below hb).k.ag 0 _ rfl,(h.below hb).r.frozen 0,(h.below hb).k.frozen 0⟩
 rw[<-eu, <-ett, <-exx]at C1;rw[<-exx]at C2;have H1:=h_ C1;have H2:=h_ C2;obtain⟨q1,q2,_,_⟩:=HQ.out w (Below.refl _ _);have HNE:=h_ hne;clear eR hil C1 C2 ex eu ett exx h hE hne;go_enter Tryz.func108,Tryz.ntmps108;go_wp2_with fail;refine H1.out.mono ?_;rintro e w1 ⟨rfl,hb1⟩;have HB1:=h_ hb1;clear hb1 q1 q2;go_wp2_with fail;refine(H2.out w1).mono ?_;rintro e w2 ⟨rfl,hb2⟩;have HB2:=h_ (HB1.out.trans (hb2.mono HB1.out.size));clear hb2;obtain⟨q1,q2,q3,q4⟩:=HQ.out w2 HB2.out;have hne:=HNE.out;have G:=h_ (FIN.out w2 HB2.out);go_wp2_with fail;(try go_ret);exact G.out
theorem Pn(e:aV):(aP e).data.toList=Lib.itoa e.r++32::(Lib.itoa e.s++32::([101,110,116,114,121,32]++(Lib.itoa e.house++32::(Lib.itoa e.seq++32::(Lib.itoa e.day++32::(Lib.itoa (e.prev.size:Int)++32::(e.prev.data.toList++e.body.data.toList))))))):=by rw[wY,BS];rfl
theorem Da(p s:List UInt8):Lib.hasPrefix (p++s) p=true:=by unfold Lib.hasPrefix;simp
theorem Km(p s:List UInt8):Lib.trimPrefix (p++s) p=s:=by unfold Lib.trimPrefix;rw[Da];simp
structure ud (W:World) (t:List UInt8) (w:World):Prop where
 nx:Ng (W.heap.size+1) (W.heap.size+1+1) t w
 res:ay w W.heap.size bO 42
 below:Below W.heap.size W w
structure xN (W:World) (t:List UInt8) (q:Nat) (cs:List Value) (w:World):Prop where
 s:ud W t w
 e:ay w q cs 42
 lo:W.heap.size+3<=q
section
variable {W w w':World} {t t':List UInt8} {q:Nat} {cs:List Value}
theorem ud.next(h:ud W t w)(hn:Ng (W.heap.size+1) (W.heap.size+1+1) t' w')(hk:aJ (λk=>k=W.heap.size+1\/k=W.heap.size+1+1) w w'):ud W t' w':=
 ⟨hn,h.res.bG (hk.block _ h.res.lt (by omega)),h.below.trans (hk.below (λk e=>by omega) h.below.size)⟩
theorem ud.grow(h:ud W t w)(hb:Below w.heap.size w w'):ud W t w':=⟨h.nx.below hb,h.res.below hb h.res.lt,h.below.trans (hb.mono h.below.size)⟩
theorem ud.put(h:ud W t w)(t':List UInt8):ud W t' (w.setCell ⟨W.heap.size+1,0,none⟩ (.string ⟨t'.toArray⟩)):=
 ⟨⟨h.nx.r.set 0 _,h.nx.k.bG (Below.heap_setCell _ _ _ _ (by show W.heap.size+1+1≠W.heap.size+1;omega))⟩,h.res.bG (Below.heap_setCell _ _ _ _ (by show W.heap.size≠W.heap.size+1;omega)),h.below.trans (di (a:=⟨W.heap.size+1,0,none⟩) (by show W.heap.size<=W.heap.size+1;omega) _)⟩
theorem xN.next(h:xN W t q cs w)(hn:ud W t' w')(hk:aJ (λk=>k=W.heap.size+1\/k=W.heap.size+1+1) w w'):xN W t' q cs w':=
 ⟨hn,h.e.bG (hk.block _ h.e.lt (by have:=h.lo;omega)),h.lo⟩
theorem xN.grow(h:xN W t q cs w)(hb:Below w.heap.size w w'):xN W t q cs w':=⟨h.s.grow hb,h.e.below hb h.e.lt,h.lo⟩
theorem xN.put(h:xN W t q cs w)(t':List UInt8):xN W t' q cs (w.setCell ⟨W.heap.size+1,0,none⟩ (.string ⟨t'.toArray⟩)):=
 ⟨h.s.put t',h.e.bG (Below.heap_setCell _ _ _ _ (by have:=h.lo;show q≠W.heap.size+1;omega)),h.lo⟩
theorem xN.set(h:xN W t q cs w)(k:Nat)(v:Value):xN W t q (cs.set k v) (w.setCell ⟨q,k,none⟩ v):=
 have hlo:=h.lo;have hk:∀j,j≠q->(w.setCell ⟨q,k,none⟩ v).heap[j]? =w.heap[j]? :=λj hj=>Below.heap_setCell _ _ _ _ (by exact hj)
 ⟨⟨⟨h.s.nx.r.bG (hk _ (by omega)),h.s.nx.k.bG (hk _ (by omega))⟩,h.s.res.bG (hk _ (by omega)),h.s.below.trans (di (a:=⟨q,k,none⟩) (by show W.heap.size<=q;omega) _)⟩,h.e.set k v,hlo⟩
end
theorem mJ(W:World)(hE:gK W)(n:Int)(t:List UInt8)(w:World)(h:ud W (Lib.itoa n++32::t) w)(h0: -9223372036854775808<=n)(h1:n<=9223372036854775807)(hl:t.length<=4000000000):
  Calls Tryz.prog 108 #[.pointer (some ⟨W.heap.size+1,0,none⟩), .pointer (some ⟨W.heap.size+1+1,0,none⟩)] w λe w'=>e= .returned (.int .i64 n)/\ud W t w'/\aJ (λk=>k=W.heap.size+1\/k=W.heap.size+1+1) w w':=
 (Ji _ _ (by omega) n t w h.nx h0 h1 hl (hE.below h.below (aL _))).mono λ_ _ ⟨a,b,c⟩=>⟨a,h.next b c,c⟩
set_option maxHeartbeats 2000000 in
theorem za(e0:aV)(W:World)(ho:e0.Ok)(hp:e0.prev.size<=1000000)(hb:e0.body.size<=1000000)(hT:cB W)(hE:gK W):
  Calls Tryz.prog 67 #[.string (aP e0)] W λe w'=>e= .returned (.tuple #[fv e0, .bool true])/\Below W.heap.size W w':=by
 obtain⟨R,eR⟩:=x_ (λe w'=>e= .returned (.tuple #[fv e0, .bool true])/\Below W.heap.size W w':Ending->World->Prop)
 rw[<-eR];obtain⟨text,etx⟩:=x_ (aP e0)
 obtain⟨V,eV⟩:=x_ ((((W.alloc (.cells #[.int .i64 0, .int .i64 0, .int .i64 0, .string ⟨#[]⟩, .string ⟨#[]⟩, .int .i64 0, .int .i64 0] 42)).alloc (.cells #[.string text] 9)).alloc (.cells #[.bool true] 4)))
 have ht0:text=⟨(aP e0).data.toList.toArray⟩:=by rw[etx]
 obtain⟨t7,e7⟩:=x_ (e0.prev.data.toList++e0.body.data.toList)
 have hl7:t7.length<=2000000:=by
   rw[e7,fu];have e1:e0.prev.data.toList.length=e0.prev.size:=by simp
   have e2:e0.body.data.toList.length=e0.body.size:=by simp
   omega
 have hil:∀n:Int, -9223372036854775808<=n->n<=9223372036854775807->(Lib.itoa n).length<=21:=λn h0 h1=>by have:=rG h0 h1;rw[pX]at this;exact this
 have hps: -9223372036854775808<=(e0.prev.size:Int)/\(e0.prev.size:Int)<=9223372036854775807:=by omega
 obtain⟨t6,e6⟩:=x_ (Lib.itoa (e0.prev.size:Int)++32::t7)
 have hl6:t6.length<=2000100:=by rw[e6,fu,kq];have:=hil _ hps.1 hps.2;omega
 obtain⟨t5,e5⟩:=x_ (Lib.itoa e0.day++32::t6)
 have hl5:t5.length<=2000200:=by rw[e5,fu,kq];have:=hil _ ho.d0 ho.d1;omega
 obtain⟨t4,e4⟩:=x_ (Lib.itoa e0.seq++32::t5)
 have hl4:t4.length<=2000300:=by rw[e4,fu,kq];have:=hil _ ho.q0 ho.q1;omega
 obtain⟨t3,e3⟩:=x_ (Lib.itoa e0.house++32::t4)
 have hl3:t3.length<=2000400:=by rw[e3,fu,kq];have:=hil _ ho.h0 ho.h1;omega
 obtain⟨t2,e2⟩:=x_ ([101,110,116,114,121,32]++t3:List UInt8)
 have hl2:t2.length<=2000500:=by rw[e2,fu];simp;omega
 obtain⟨t1,e1⟩:=x_ (Lib.itoa e0.s++32::t2)
 have hl1:t1.length<=2000600:=by rw[e1,fu,kq];have:=hil _ ho.s0 ho.s1;omega
 have etx0:(aP e0).data.toList=Lib.itoa e0.r++32::t1:=by rw[Pn,e1,e2,e3,e4,e5,e6,e7]
 have hS0:ud W (Lib.itoa e0.r++32::t1) V:=by
  rw[<-etx0,eV];refine⟨⟨?_, ?_⟩, ?_,((((Below.refl _ _).alloc (aL _) _).alloc (by simp) _).alloc (by simp;omega) _)⟩
  ·rw[<-ht0];exact(ay.made (l:= [.string text]) (by simp) rfl).alloc _
  ·exact ay.made (l:= [.bool true]) (by simp) rfl
  ·exact((ay.new W bO 42).alloc _).alloc _
 have EV:Hid ((((W.alloc (.cells #[.int .i64 0, .int .i64 0, .int .i64 0, .string ⟨#[]⟩, .string ⟨#[]⟩, .int .i64 0, .int .i64 0] 42)).alloc (.cells #[.string text] 9)).alloc (.cells #[.bool true] 4))=V):=h_ eV.symm;have N1:=h_ (mJ W hE e0.r t1 V hS0 ho.r0 ho.r1 (by omega));have N2:=h_ (λw (h:ud W t1 w)=>mJ W hE e0.s t2 w (by rw[<-e1];exact h) ho.s0 ho.s1 (by omega));have N3:=h_ (λw (h:ud W t3 w)=>mJ W hE e0.house t4 w (by rw[<-e3];exact h) ho.h0 ho.h1 (by omega));have N4:=h_ (λw (h:ud W t4 w)=>mJ W hE e0.seq t5 w (by rw[<-e4];exact h) ho.q0 ho.q1 (by omega));have N5:=h_ (λw (h:ud W t5 w)=>mJ W hE e0.day t6 w (by rw[<-e5];exact h) ho.d0 ho.d1 (by omega));have N6:=h_ (λw (h:ud W t6 w)=>mJ W hE (e0.prev.size:Int) t7 w (by rw[<-e6];exact h) hps.1 hps.2 (by omega));obtain⟨x2,ex2⟩:=x_ (⟨t2.toArray⟩:ByteArray)
 obtain⟨x3,ex3⟩:=x_ (⟨t3.toArray⟩:ByteArray)
 obtain⟨x7,ex7⟩:=x_ (⟨t7.toArray⟩:ByteArray)
 have CH:Hid (∀w,Calls Tryz.prog 111 #[.string x2, .string ⟨#[101,110,116,114,121,32]⟩] w λe w'=>e= .returned (.bool true)/\w'=w):=h_ λw=>by
  have h:=Tryz.strings_HasPrefix x2 ⟨#[101,110,116,114,121,32]⟩ w;have e:Lib.hasPrefix x2.data.toList (⟨#[101,110,116,114,121,32]⟩:ByteArray).data.toList=true:=by rw[ex2,e2];exact Da _ _
  rw[e]at h;exact h
 have CT:Hid (∀w,Calls Tryz.prog 112 #[.string x2, .string ⟨#[101,110,116,114,121,32]⟩] w λe w'=>e= .returned (.string x3)/\w'=w):=h_ λw=>by
  have h:=Tryz.strings_TrimPrefix x2 ⟨#[101,110,116,114,121,32]⟩ w;have e:Lib.trimPrefix x2.data.toList (⟨#[101,110,116,114,121,32]⟩:ByteArray).data.toList=t3:=by rw[ex2,e2];exact Km _ _
  rw[e, <-ex3]at h;exact h
 have B2:Hid (∀w,ud W t2 w->w.cell? ⟨W.heap.size+1,0,none⟩=some (.string x2)/\w.frozen? ⟨W.heap.size+1,0,none⟩=false):=h_ λw h=>by rw[ex2];exact⟨h.nx.r.ag 0 _ rfl,h.nx.r.frozen 0⟩
 have P3:Hid (∀w q cs,xN W t2 q cs w->xN W t3 q cs (w.setCell ⟨W.heap.size+1,0,none⟩ (.string x3))):=h_ λw q cs h=>by rw[ex3];exact h.put t3
 have B7:Hid (∀w,ud W t7 w->w.cell? ⟨W.heap.size+1,0,none⟩=some (.string x7)/\w.cell? ⟨W.heap.size+1+1,0,none⟩=some (.bool true)):=h_ λw h=>by rw[ex7];exact⟨h.nx.r.ag 0 _ rfl,h.nx.k.ag 0 _ rfl⟩
 have X7:Hid (x7.extract 0 e0.prev.size=e0.prev/\x7.extract e0.prev.size x7.size=e0.body/\x7.size=e0.prev.size+e0.body.size):=h_ (by
  have hx:x7=e0.prev++e0.body:=by rw[ex7,e7];apply Sl;simp
  rw[hx];exact⟨ByteArray.extract_append_eq_left rfl,ByteArray.extract_append_eq_right rfl (by simp),by simp⟩)
 have CR:=h_ (λw hT=>nI e0 w ho (by omega) (by omega) hT);have HT:Hid (∀w,Below W.heap.size W w->cB w):=h_ λw h=>hT.below h (aL _)
 have ER:=h_ eR;have HPS:Hid (e0.prev.size<=1000000/\e0.body.size<=1000000):=h_ ⟨hp,hb⟩;have SZ:Hid (∀w,ud W t2 w->W.heap.size+3<=w.heap.size):=h_ λw h=>by have:=h.nx.k.lt;omega
 have HIN:Hid (∀cs:List Value,cs.length=7->(Tryz.prog.info? 42).map (·.size)=some cs.length):=h_ cE;have ETX:=h_ etx;clear eR ho hT hE hp hb eV ht0 e7 hl7 hil hps e6 hl6 e5 hl5 e4 hl4 e3 hl3 e2 hl2 e1 hl1 etx0 hS0 ex2 ex3 ex7;rw[<-etx];clear etx;go_enter Tryz.func67,Tryz.ntmps67;go_wp2_with (simp only[EV.out])
 refine N1.out.mono ?_;rintro e w1 ⟨rfl,hs1,_⟩;have S1:=h_ hs1;clear hs1 N1;go_wp2_with fail;refine(N2.out w1 S1.out).mono ?_;rintro e w2 ⟨rfl,hs2,_⟩;obtain⟨w3,e3⟩:=x_ (w2.alloc (.cells #[.int .i64 0, .int .i64 0, .int .i64 0, .string ⟨#[]⟩, .string ⟨#[]⟩, .int .i64 e0.r, .int .i64 e0.s] 42))
 have Q3:Hid (xN W t2 w2.heap.size [.int .i64 0, .int .i64 0, .int .i64 0, .string ⟨#[]⟩, .string ⟨#[]⟩, .int .i64 e0.r, .int .i64 e0.s] w3):=h_ (by
  have hb:Below w2.heap.size w2 w3:=by rw[e3];exact(Below.refl _ _).alloc (aL _) _
  exact⟨hs2.grow hb,by rw[e3];exact ay.new w2 [.int .i64 0, .int .i64 0, .int .i64 0, .string ⟨#[]⟩, .string ⟨#[]⟩, .int .i64 e0.r, .int .i64 e0.s] 42,SZ.out w2 hs2⟩)
 have HE3:=h_ e3.symm;obtain⟨q2,f2⟩:=B2.out w3 Q3.out.s;clear hs2 N2 S1 e3;go_wp2_with (simp only[HE3.out])
 refine(CH.out w3).mono ?_;rintro e w3 ⟨rfl,rfl⟩;go_wp2_with fail;refine(CT.out w3).mono ?_;rintro e w3 ⟨rfl,rfl⟩;have Q4:=h_ (P3.out w3 _ _ Q3.out);obtain⟨q,eq⟩:=x_ w2.heap.size
 rw[<-eq]at Q4⊢;clear Q3 HE3 CH CT eq;go_wp2_with fail;refine(N3.out _ Q4.out.s).mono ?_;rintro e w5 ⟨rfl,hs5,hk5⟩;have Q5:=h_ (Q4.out.next hs5 hk5);clear hs5 hk5 Q4 q2 f2 N3;go_wp2_with fail;refine(N4.out _ Q5.out.s).mono ?_;rintro e w6 ⟨rfl,hs6,hk6⟩;have Q6:=h_ (Q5.out.next hs6 hk6);clear hs6 hk6 Q5 N4;go_wp2_with fail;refine(N5.out _ Q6.out.s).mono ?_;rintro e w7 ⟨rfl,hs7,hk7⟩;have Q7:=h_ (Q6.out.next hs7 hk7);clear hs7 hk7 Q6 N5;have k0:=Q7.out.e.ag 0 _ rfl;have k1:=Q7.out.e.ag 1 _ rfl;have k2:=Q7.out.e.ag 2 _ rfl;have f0:=Q7.out.e.frozen 0;have f1:=Q7.out.e.frozen 1;have f2:=Q7.out.e.frozen 2;have Q8:=h_ (((Q7.out.set 0 (.int .i64 e0.house)).set 1 (.int .i64 e0.seq)).set 2 (.int .i64 e0.day));clear Q7;go_wp2_with fail;refine(N6.out _ Q8.out.s).mono ?_;rintro e w9 ⟨rfl,hs9,hk9⟩;have Q9:=h_ (Q8.out.next hs9 hk9);clear hs9 hk9 Q8 N6 k0 k1 k2 f0 f1 f2;obtain⟨b1,b2⟩:=B7.out w9 Q9.out.s;obtain⟨hp,hb⟩:=HPS.out;have t1:decide ((e0.prev.size:Int)<0)=false:=dy (by omega);have t2:decide ((x7.size:Int)<(e0.prev.size:Int))=false:=dy (by rw[X7.out.2.2];omega);have t3: ¬(x7.size<e0.prev.size):=by rw[X7.out.2.2];omega
 have t4:decide (x7.size<e0.prev.size)=false:=dy t3;have t5:e0.prev.size<=x7.size:=by omega
 clear hp hb;go_wp2_with fail;refine Fre7.dZ 10 [7,9] (λst y=>xN W t7 q ([.int .i64 e0.house, .int .i64 e0.seq, .int .i64 e0.day,(if st=0 then .string ⟨#[]⟩else .string e0.prev),(if st<=1 then .string ⟨#[]⟩else .string e0.body), .int .i64 e0.r, .int .i64 e0.s]) y) (by kernel_rfl) (by kernel_rfl) (by kernel_rfl) (Q9.out.grow (Below.refl _ _).drew) ?_;simp only[eJ,dT];clear b1 b2;iterate 7 (apply Fre7.ae (Free.wq rfl) rfl;(intro st w' hB;have q4:=(B7.out w' hB.s).1;clear hB;go_light;go_simp<;>rfl);(try simp only[Pt]))
 simp only[X7.out.1,X7.out.2.1];apply Fre7.gO (Free.wq rfl) (c:=0) rfl
 ·intro w' hB;have g3:=hB.e.ag 3 (.string ⟨#[]⟩) rfl;have p3:=hB.e.frozen 3;exact Fre7.tg (w':=w'.setCell ⟨q,3,none⟩ (.string e0.prev)) (by clear hB;go_light;go_simp<;>rfl) ⟨hB.set 3 (.string e0.prev),rfl⟩
 simp only[Pt];iterate 1 (apply Fre7.ae (Free.wq rfl) rfl;(intro st w' hB;clear hB;go_light;go_simp<;>rfl);(try simp only[Pt]))
 apply Fre7.gO (Free.wq rfl) (c:=1) rfl
 ·intro w' hB;have g3:=hB.e.ag 4 (.string ⟨#[]⟩) rfl;have p3:=hB.e.frozen 4;exact Fre7.tg (w':=w'.setCell ⟨q,4,none⟩ (.string e0.body)) (by clear hB;go_light;go_simp<;>rfl) ⟨hB.set 4 (.string e0.body),rfl⟩
 simp only[Pt];apply Fre7.ax;intro w11 hB;simp only[fm,fo];obtain⟨cs,ecs⟩:=x_ (aK e0)
 have hQ:xN W t7 q cs w11:=by rw[ecs];exact hB
 have HQ11:=h_ hQ;have HIC:=h_ (HIN.out cs (by rw[ecs];rfl));have HOC:Hid (∀u∈cs,u.oneCell'=true):=h_ (by rw[ecs];exact cm e0);have HM11:Hid (w11.rangeAt q 0 cs):=h_ (rg_of hQ.e);have CR2:=CR.out w11 (HT.out w11 hQ.s.below);rw[<-ecs, <-ETX.out]at CR2;have ECS:=h_ ecs;clear hQ ecs hB Q9;go_wp2_with (refine aH (.tmp 7) ?_;refine wpList_load_mid rfl 42 (.tmp 7) rfl q 0 rfl cs _ HM11.out Tryz.underlying42 rfl HIC.out ?_)
 refine CR2.mono ?_;rintro e w12 ⟨rfl,hb12⟩;have HQ12:=h_ (HQ11.out.grow hb12);have HM12:Hid (w12.rangeAt q 0 cs):=h_ (rg_of HQ12.out.e);clear hb12 CR2;go_wp2_with (first
  |(refine aH (.tmp 7) ?_;refine wpList_load_mid rfl 42 (.tmp 7) rfl q 0 rfl cs _ HM12.out Tryz.underlying42 rfl HIC.out ?_)
  |(refine aN (.tmp 2) ?_;refine Hk.aZ rfl 42 (.tmp 2) (.tmp 60) rfl W.heap.size rfl cs rfl bO 42 HQ12.out.s.res HIC.out (by rw[ECS.out];rfl) HOC.out ?_;intro w9 h91 h92 h93;have H91:=h_ h91;have H92:=h_ h92;clear h91 h92 h93;simp only[Act.put]))
 refine bodyPost_ret (v:= .tuple #[.agg cs.toArray, .bool true]) (Hk.aB (fn:=Tryz.f67) (p:=2) (u:=3) (ty:=42) rfl _ _ W.heap.size 42 cs.toArray (0,0) _ rfl H91.out Tryz.underlying42 rfl (by rw[HIC.out];simp) rfl) rfl ?_;rw[ER.out,ECS.out];exact⟨rfl,HQ12.out.s.below.trans (below_grown H92.out (λg hg=>by injection hg with e;omega) HQ12.out.s.below.size)⟩
end Go.Proofs.YtkmbmfengcdmoaaGreatDoor
namespace Go.Proofs.YtkmbmfengcdmoaaGreatDoor
open Go.RowKit Go.ay Go.Jn Go.Dk Go.Ho Go.Opn Go.Maps Go.WideMaps Go.Apl Go.Mg Go.Rf Go.Lib Go.Sg
abbrev Nd:= {x:ei // 0<=x.ref/\x.ref<=1000000}
instance:Inhabited Nd:=⟨⟨⟨0,0,0,0,0,false⟩,by decide⟩⟩
def iV(x:Nd):List Value:=bU x.1
def PK(x y:Nd):Int:=x.1.ref-y.1.ref
theorem LX(x y:Nd):ltOf PK x y=decide (x.1.ref<y.1.ref):=by unfold ltOf PK;rw[PC];omega
theorem Ts:Sort.SWO (ltOf PK) where
 irrefl x:=by rw[LX];simp
 trans x y z h1 h2:=by rw[LX]at*;simp at*;omega
 ntrans x y z h1 h2:=by rw[LX]at*;simp at*;omega
set_option maxHeartbeats 1000000 in
theorem OC(x y:Nd)(W:World):Calls Tryz.prog 72 #[.agg (iV x).toArray, .agg (iV y).toArray] W λe w'=>e= .returned (.int .i64 (PK x y))/\∃q os',w'=Sort.grow (W.drewN q) os':=by
 obtain⟨cs,ecs⟩:=x_ (iV x)
 obtain⟨ds,eds⟩:=x_ (iV y)
 rw[<-ecs, <-eds];have hr1:Row (W.alloc (.cells cs.toArray 29)) W.heap.size 29 cs:=Row.new _ _ _;have hr1':Row ((W.alloc (.cells cs.toArray 29)).alloc (.cells ds.toArray 29)) W.heap.size 29 cs:=hr1.below ((Below.refl _ _).alloc (aL _) _) hr1.lt;have hr2:Row ((W.alloc (.cells cs.toArray 29)).alloc (.cells ds.toArray 29)) (W.heap.size+1) 29 ds:=by
  have:=Row.new (W.alloc (.cells cs.toArray 29)) 29 ds
  rwa[show(W.alloc (.cells cs.toArray 29)).heap.size=W.heap.size+1 by simp]at this
 have c0:=hr1'.at (show cs[0]? =some (.int .i64 x.1.ref) by rw[ecs];rfl);have d0:=hr2.at (show ds[0]? =some (.int .i64 y.1.ref) by rw[eds];rfl);have hx:=x.2;have hy:=y.2;have hw:IntKind.i64.wrap (x.1.ref-y.1.ref)=x.1.ref-y.1.ref:=by simp[IntKind.wrap,IntKind.bits,IntKind.signed];omega
 unfold PK;clear hr1 hr1' hr2 ecs eds;go_enter Tryz.func72,Tryz.ntmps72;go_wp2_with fail;go_ret;exact⟨by first|rfl|rw[hw],0,_,by rw[Sort.alloc_eq_grow,Sort.alloc_eq_grow,Sort.grow_grow];rfl⟩
theorem LA(args:Array Value)(w:World):(callFunc 72 args).run Tryz.prog w= .ok (.enter 72 args) w:=enters_of Tryz.func72 (by kernel_rfl) rfl args w
theorem Di:∀(am:List ei),(∀x∈am,0<=x.ref/\x.ref<=1000000)->∃ds:List Nd,ds.map Subtype.val=am
 | [],_=>⟨[],rfl⟩
 |x::r,h=>by
  obtain⟨ds,hd⟩:=Di r λy hy=>h y (by simp[hy])
  exact⟨⟨x,h x (by simp)⟩::ds,by simp[hd]⟩
theorem Es(x:Nd):(iV x).length=6:=rfl
theorem Iy(ds:List Nd):(ds.map Subtype.val).flatMap bU=ds.flatMap iV:=by rw[List.flatMap_map];rfl
set_option maxHeartbeats 1000000 in
theorem MO(am:List ei)(base:Nat)(v:Value)(W:World)(h:W.ownsRow base 29 6 v am.length (am.flatMap bU))(hn:∀x∈am,0<=x.ref/\x.ref<=1000000)(hl:am.length<=1000000):
  Calls Tryz.prog 71 #[v, .func (.func 72) #[] #[]] W λe w'=>e= .returned (.tuple #[])/\W.grownBy w' v.ownBlock/\∃am' A c,v= .slice A am.length c/\am'.Perm am/\am'.Pairwise (λa b=>a.ref<=b.ref)/\SL w' 6 bU A am':=by
 by_cases h0:am= []
 ·subst h0;obtain⟨A,c,rfl⟩:=fG h;refine(AnyF.slices_SortFunc_none Tryz.TU A c _ W).mono ?_;rintro e w' ⟨rfl,rfl⟩;exact⟨rfl,⟨rfl,rfl,rfl,aL _,λ_ _ _=>rfl⟩,[],A,c,rfl,P5 _,List.Pairwise.nil,SL.nil⟩
 obtain⟨ds,hd⟩:=Di am hn;obtain⟨g,cap,cur,rfl,hb,hg,hn1,hm,ht,_⟩:=Apl.tm (ec:=bU) (λ_=>rfl) h h0;have hlen:ds.toArray.size=am.length:=by rw[<-hd];simp
 have hlt:g<W.heap.size:=(iS.1 hg).1;have hH:Sort.HoldsK iV 6 W g 0 ds.toArray:=by
  intro j hj;rw[Sort.size_flatK]at hj;rw[Sort.get_flatK _ _ _ _ hj,nW];refine⟨?_,by simp[World.frozen?,hg]⟩;have hj2:j<am.length*6:=by rw[<-hlen];exact hj
  have hdiv:j / 6<ds.length:=by
   have:ds.length=am.length:=by rw[<-hlen];simp
   omega
  have e1:(am.flatMap bU)[j]? =some (iV ds[j / 6]!)[j % 6]! :=by
   rw[<-hd,Iy]
   have:=Apl.mF (ec:=iV) Es ds (j / 6) ds[j / 6] (j % 6) (iV ds[j / 6])[j % 6]! (eH hdiv) (by
    rw[KN (iV ds[j / 6]) (j % 6) (M3 _ (by decide))];exact eH _)
   rw[show j / 6*6+j % 6=j by omega]at this;rw[this,KN ds (j / 6) hdiv]
  rw[<-ht,qC,if_pos hj2]at e1;have e2:ds.toArray[j / 6]! =ds[j / 6]! :=by simp
  rw[e2];simp only[World.cell?,hg];simp only[Option.isSome_none,GA,B6];simpa using e1
 have C:=AnyQ.slices_SortFunc Tryz.TU 6 Tryz.isAgg29 Tryz.sizeOf29 iV (λ_=>rfl) (λx v hv=>lQ _ v hv) PK Ts 72 #[] g 0 cap ds.toArray W LA (λm os dk _ x y=>OC x y _) hH hlt (by rw[hlen];omega);rw[hlen]at C;refine C.mono ?_;rintro e w' ⟨rfl,d',m,os,hp,hs,rfl⟩;have hsz:d'.size=am.length:=hp.1.trans hlen;have hH2:=Go.Proofs.holdsK_sortWorldK_c iV 6 W g 0 ds.toArray d' m os hH hlt hp.1;refine⟨rfl,⟨rfl,rfl,rfl,Go.Proofs.size_sortWorldK_c iV 6 W g 0 m d' os,λk hk hne=> ?_⟩,d'.toList.map Subtype.val,some ⟨g,0,none⟩,cap,rfl, ?_, ?_, ?_⟩
 ·have hkg:g≠k:=λe=>hne (by rw[e];rfl)
  unfold sortWorldK;rw[Sort.heap_grow_old _ _ (by unfold Sort.putRowK;rw[Sort.size_putRow];exact hk)];simp[Sort.putRowK,Sort.putRow,Sort.mapBlock,Sort.ahead,vS,hkg]
 ·have h3:=hp.2.2;have h4:d'.extract 0 am.length=d':=by rw[<-hsz];simp
  have h5:ds.toArray.extract 0 am.length=ds.toArray:=by rw[<-hlen];simp
  rw[h4,h5]at h3;rw[<-hd];exact h3.map _
 ·rw[List.pairwise_map,List.pairwise_iff_getElem];intro i j hi hj hij;have h3:=hs i j (gu _) hij (by rw[<-hsz];simpa using hj);rw[LX]at h3;have hi':i<d'.size:=by simpa using hi
  have hj':j<d'.size:=by simpa using hj
  rw[KN d' i hi',KN d' j hj']at h3;have h4:=of_decide_eq_false h3;show d'.toList[i].1.ref<=d'.toList[j].1.ref;rw[Array.getElem_toList,Array.getElem_toList];omega
 ·refine⟨λ_=>⟨g,0,rfl,λj x hj p u hu=> ?_⟩⟩;rw[mx]at hj;obtain⟨y,hy,rfl⟩:=Option.map_eq_some_iff.1 hj;have hjl:j<d'.size:=by have:=(jS.1 hy).1;simpa using this
  have hpl:p<6:=(jS.1 hu).1;have h3:=(hH2.cell hjl hpl).1;have hy':d'[j]! =y:=by
   rw[KN d' j hjl]
   have:=(jS.1 hy).2;simpa using this
  rw[hy']at h3;have hu':(iV y)[p]! =u:=by rw[KN (iV y) p hpl];exact(jS.1 hu).2
  rw[hu',Nat.add_assoc]at h3;exact h3
abbrev Ac:=Option Addr×Nat
noncomputable def Iv (s:HS) (j:Nat) (x:Ac):List Value:= [.int .i64 (j:Int), .slice x.1 (dP s j).length x.2, .slice none 0 0]
def sF:List Value:= [.int .i64 0, .slice none 0 0, .slice none 0 0]
noncomputable def jY (s:HS) (ac:List Ac) (j:Nat):List Value:=match ac[j]? with
 |some x=>Iv s j x
 |none=>sF
theorem qd(s:HS)(ac:List Ac)(j:Nat):(jY s ac j).length=3:=by unfold jY;split<;>rfl
noncomputable def gx (s:HS) (N:Nat) (ac:List Ac):List Value:=(List.range N).flatMap (jY s ac)
theorem jq(s:HS)(N:Nat)(ac:List Ac):(gx s N ac).length=N*3:=by unfold gx;rw[jZ (qd s ac),List.length_range]
theorem mE{s:HS}{N:Nat}{ac:List Ac}{j p:Nat}(hj:j<N)(hp:p<3):(gx s N ac)[j*3+p]? =(jY s ac j)[p]? :=by have hl:=qd s ac j;rw[eH (by omega:p<(jY s ac j).length)];exact Apl.mF (ec:=jY s ac) (qd s ac) (List.range N) j j p _ (by rw[List.getElem?_range hj]) (eH _)
theorem yA{s:HS}{N:Nat}{ac:List Ac}{x:Ac}(hk:ac.length<N):(((gx s N ac).set (ac.length*3) (.int .i64 (ac.length:Int))).set (ac.length*3+1) (.slice x.1 (dP s ac.length).length x.2)).set (ac.length*3+2) (.slice none 0 0)=gx s N (ac++ [x]):=by
 apply rC;intro i;by_cases hi:i<N*3
 ·have e:i=i / 3*3+i % 3:=by omega
  obtain⟨j,ej⟩:=x_ (i / 3)
  obtain⟨p,ep⟩:=x_ (i % 3)
  rw[<-ej, <-ep]at e;have hj:j<N:=by omega
  have hp:p<3:=by omega
  subst e;rw[mE hj hp];have hl:=jq s N ac;simp only[Sd,List.length_set,hl];by_cases hjk:j=ac.length
  ·subst hjk;have e2:jY s (ac++ [x]) ac.length=Iv s ac.length x:=by unfold jY;simp
   rw[e2]
   have:p=0\/p=1\/p=2:=by omega
   rcases this with rfl|rfl|rfl
   ·rw[if_neg (by omega),if_neg (by omega),if_pos (by omega),if_pos (by omega)];rfl
   ·rw[if_neg (by omega),if_pos (by omega),if_pos (by omega)];rfl
   ·rw[if_pos (by omega),if_pos (by omega)];rfl
  ·rw[if_neg (by omega),if_neg (by omega),if_neg (by omega),mE hj hp];have e2:jY s (ac++ [x]) j=jY s ac j:=by
    unfold jY;by_cases h:j<ac.length
    ·rw[xL h]
    ·rw[BW (by omega),pz (show ac.length<=j by omega),pz (by simp;omega)]
   rw[e2]
 ·rw[pz (by simp only[List.length_set,jq];omega),pz (by rw[jq];omega)]
theorem Hf{s:HS}{F:List ei}{e:aV}(h:∀x∈F,0<=x.ref/\x.ref<=1000000):∀x∈kx s F e,0<=x.ref/\x.ref<=1000000:=by
 unfold kx;split
 ·exact h
 ·split
  ·rename_i x hx hc;intro y hy;rcases zT.1 hy with hy|hy
   ·exact h y hy
   ·rw[vU]at hy;subst hy;simp only[ua]at hc
    have:=hc.1;unfold dE at this;simp only[ua,uD]at this;omega
  ·exact h
theorem uW(s:HS):∀(C:List aV) (F:List ei),(∀x∈F,0<=x.ref/\x.ref<=1000000)->∀x∈C.foldl (kx s) F,0<=x.ref/\x.ref<=1000000
 | [],F,h=>h
 |e::C,F,h=>uW s C _ (Hf h)
theorem Az(s:HS)(house:Int):∀x∈dP s house,0<=x.ref/\x.ref<=1000000:=uW s _ [] (λx hx=>by cases hx)
def DX(lo:Nat)(w:World)(x:Ac)(F:List ei):Prop:=
 ∃l:List ei,l.Perm F/\l.Pairwise (λa b=>a.ref<=b.ref)/\SL w 6 bU x.1 l/\F.length<=x.2/\∀b,x.1.map (·.block)=some b->lo<b/\b<w.heap.size
theorem DX.bD{lo:Nat}{w w':World}{x:Ac}{F:List ei}(h:DX lo w x F)(hs:w.heap.size<=w'.heap.size)(hk:∀b,lo<b->b<w.heap.size->w'.heap[b]? =w.heap[b]?):DX lo w' x F:=by obtain⟨l,h1,h2,h3,h4,h5⟩:=h;exact⟨l,h1,h2,jw h3 (λb e=>hk b (h5 b e).1 (h5 b e).2),h4,λb e=>⟨(h5 b e).1,nX (h5 b e).2 hs⟩⟩
structure Cb (W:World) (s:HS) (N:Nat) (ac:List Ac) (w:World):Prop where
 bg:ay w W.heap.size (gx s N ac) 81
 fs:∀(j:Nat) (x:Ac),ac[j]? =some x->DX W.heap.size w x (dP s (j:Int))
 below:Below W.heap.size W w
section
variable {W w w':World} {s:HS} {N:Nat} {ac:List Ac}
theorem Cb.grow(h:Cb W s N ac w)(hb:Below w.heap.size w w'):Cb W s N ac w':=
 ⟨h.bg.below hb h.bg.lt,λj x e=>(h.fs j x e).bD hb.size (λb _ hb2=>hb.block b hb2),h.below.trans (hb.mono h.below.size)⟩
theorem Cb.own{B:Nat}{r:Option Nat}(h:Cb W s N ac w)(hB:w.heap.size<=B)(hb:Below w.heap.size w w'){w2:World}(hg:w'.grownBy w2 r)(hr:∀g,r=some g->B<=g):Cb W s N ac w2:=by
 have hs:=hb.size;have hne:∀k,k<w.heap.size->some k≠r:=λk hk e=>by have:=hr k e.symm;omega
 have h1:=h.grow hb;refine⟨h1.bg.bG (hg.block _ h1.bg.lt (hne _ h.bg.lt)),λj x e=>(h.fs j x e).bD (fO hs hg.size) (λb _ hb2=>by rw[hg.block b (by omega) (hne b hb2),hb.block b hb2]),h1.below.trans ⟨hg.os,hg.tape,hg.output,hg.size,λk hk=>hg.block k (by have:=h1.bg.lt;omega) (hne k (by have:=h.bg.lt;omega))⟩⟩
theorem Cb.push(h:Cb W s N ac w)(hk:ac.length<N)(x:Ac)(hx:DX W.heap.size w x (dP s (ac.length:Int))):
  Cb W s N (ac++ [x]) (((w.setCell ⟨W.heap.size,ac.length*3,none⟩ (.int .i64 (ac.length:Int))).setCell ⟨W.heap.size,ac.length*3+1,none⟩ (.slice x.1 (dP s (ac.length:Int)).length x.2)).setCell ⟨W.heap.size,ac.length*3+2,none⟩ (.slice none 0 0)):=by
 have hne:∀b,W.heap.size<b->(((w.setCell ⟨W.heap.size,ac.length*3,none⟩ (.int .i64 (ac.length:Int))).setCell ⟨W.heap.size,ac.length*3+1,none⟩ (.slice x.1 (dP s (ac.length:Int)).length x.2)).setCell ⟨W.heap.size,ac.length*3+2,none⟩ (.slice none 0 0)).heap[b]? =w.heap[b]? :=λb hb=>by
  rw[Below.heap_setCell _ _ _ _ (by show b≠W.heap.size;omega),Below.heap_setCell _ _ _ _ (by show b≠W.heap.size;omega),Below.heap_setCell _ _ _ _ (by show b≠W.heap.size;omega)]
 refine⟨by rw[<-yA hk];exact((h.bg.set _ _).set _ _).set _ _,λj y e=> ?_,((h.below.trans (di (a:=⟨W.heap.size,_,none⟩) (aL _) _)).trans (di (a:=⟨W.heap.size,_,none⟩) (aL _) _)).trans (di (a:=⟨W.heap.size,_,none⟩) (aL _) _)⟩;by_cases hj:j<ac.length
 ·rw[xL hj]at e;exact(h.fs j y e).bD (by simp) (λb hb _=>hne b hb)
 ·by_cases hj2:j=ac.length
  ·subst hj2;simp at e;subst e;exact hx.bD (by simp) (λb hb _=>hne b hb)
  ·rw[pz (by simp;omega)]at e;cases e
end
def GQ(W:World)(s:HS)(N:Nat)(e:Ending)(w':World):Prop:=
 e= .returned (.slice (some ⟨W.heap.size,0,none⟩) N N)/\∃ac:List Ac,ac.length=N/\Cb W s N ac w'
theorem OP:∃i,Tryz.prog.info? 81=some i/\i.zero=some (.agg sF.toArray)/\i.size=3/\i.bytes=56:=by
 have h:(Tryz.prog.info? 81).map (λi=>(i.zero,i.size,i.bytes))=some (some (.agg sF.toArray),3,56):=by kernel_rfl
 cases hi:Tryz.prog.info? 81 with
 |none=>rw[hi]at h;cases h
 |some i=>rw[hi]at h;simp only[GK,NS,NO]at h;exact⟨i,rfl,h.1,h.2.1,h.2.2⟩
theorem A7(s:HS)(N:Nat):madeCells (Value.agg sF.toArray).cells (N*3)=(gx s N []).toArray:=by
 apply M5;apply rC;intro i;show(madeCells sF.toArray (N*3)).toList[i]? =(gx s N [])[i]?;by_cases hi:i<N*3
 ·have e:(gx s N [])[i]? =sF[i % 3]? :=by have h:=mE (s:=s) (N:=N) (ac:= []) (j:=i / 3) (p:=i % 3) (by omega) (by omega);rw[show i / 3*3+i % 3=i by omega]at h;rw[h];rfl
  rw[e];have h3:i % 3=0\/i % 3=1\/i % 3=2:=by omega
  rcases h3 with h3|h3|h3<;>simp[madeCells,hi,h3,sF]
 ·rw[pz (by simp[madeCells];omega),pz (by rw[jq];omega)]
theorem Je(s:HS)(n:Nat)(hn:n<=4000)(W:World):(Instr.makeSlice 77 (.int .i64 (n:Int)) (.int .i64 (n:Int))).run Tryz.prog W= .ok (.slice (some ⟨W.heap.size,0,none⟩) n n) (W.alloc (.cells (gx s n []).toArray 81)):=by obtain⟨i,hi,hz,hs,hy⟩:=OP;have h:=run_make (P:=Tryz.prog) W 77 81 i _ Tryz.underlying77 hi hz .i64 .i64 (n:Int) (n:Int) (by omega) (by omega) (by rw[hy];omega) (by omega);rw[h,hs,tZ,A7 s]
set_option maxHeartbeats 1000000 in
theorem EH(o:Lo)(s:HS)(W:World)(N:Nat)(eN:s.aj=(N:Int))(h:HR W o s)(hi:lv s)(hT:cB W)(hE:gK W):Calls Tryz.prog 28 #[.pointer (some ⟨o.hb,0,none⟩)] W (GQ W s N):=by
 obtain⟨R,eR⟩:=x_ (GQ W s N)
 rw[<-eR];have h12:=hi.KI;have FIN:Hid (∀w' ac,ac.length=N->Cb W s N ac w'->R (.returned (.slice (some ⟨W.heap.size,0,none⟩) N N)) w'):=h_ λw' ac h1 h2=>by rw[eR];exact⟨rfl,ac,h1,h2⟩
 have HN:Hid (N<=12):=h_ (by omega);have hpn:=hi.pn;have HF:Hid (∀j:Nat,(dP s (j:Int)).length<=1000000):=h_ λj=>by
  refine fO (nD s _) ?_;unfold bE fA bJ;rw[jQ,rm,fe];have:=gE s.aw (j:Int);have:=hi.e.jX;omega
 have c0:=h.bg.ag 0 _ rfl;rw[eN]at c0;have C1:=h_ (fun(j:Nat) (hj:j<N) w' (hb:Below W.heap.size W w')=>uU o s j w' (h.below hb) hi (by omega) (hT.below hb (aL _)) (hE.below hb (aL _)));have hmk:=Je s N (by omega) W;obtain⟨V,eV⟩:=x_ (W.alloc (.cells (gx s N []).toArray 81))
 rw[<-eV]at hmk;have HV:Hid (Cb W s N [] V):=h_ (by rw[eV];exact⟨ay.new W _ _,λj x e=>by simp at e,(Below.refl _ _).alloc (aL _) _⟩);clear eR h hi hT hE h12 eN hpn eV;go_enter Tryz.func28,Tryz.ntmps28;go_wp2_with fail
 go_loopw [15] (λv wr=> ∃ac:List Ac,v= .int .i64 (ac.length:Int)/\ac.length<=N/\Cb W s N ac wr) (λv _=>(N:Int).toNat- (RowKit.intOf v).toNat)
 case atStart=>exact⟨[],rfl,gu _,HV.out⟩
 case round=>
  obtain⟨ac,rfl,hk,hfl⟩:=hrel;have HM:=h_ hfl;have hn12:=HN.out;obtain⟨k,ek⟩:=x_ ac.length
  rw[<-ek]at hk⊢;rcases pC hk with hkl|hkl
  ·have hki:(k:Int)<(N:Int):=by omega
   have C2:=h_ (C1.out k hkl wr hfl.below);have EK:=h_ ek;clear hfl ek;go_wp2_with fail;refine C2.out.mono ?_;rintro e w2 ⟨v,rfl,hown,hb2⟩;have CS:=h_ (MO (dP s (k:Int)) (wr.heap.size+4) v w2 hown (Az s _) (HF.out k));have HO:=h_ hown;have HB2:=h_ hb2;clear hown hb2;go_wp2_with fail;refine CS.out.mono ?_;rintro e w3 ⟨rfl,hg,l',A,c,rfl,hperm,hpw,hsl⟩;have hI3:Cb W s N ac w3:=HM.out.own (B:=wr.heap.size) (aL _) HB2.out hg (λg e=>by have:=(World.ownsRow.lt HO.out g e).1;omega);have hx:DX W.heap.size w3 (A,c) (dP s (k:Int)):=by
    obtain⟨A',c',e',hc',_⟩:=gV jW HO.out;injection e' with e1 _ e3;subst e1;subst e3;refine⟨l',hperm,hpw,hsl,hc',λb e=> ?_⟩;have hlt:=World.ownsRow.lt HO.out b (by
     cases A with
     |none=>cases e
     |some a=>exact e)
    have:=HM.out.bg.lt
    have:=hg.size;omega
   have HP:=h_ (hI3.push (by rw[<-EK.out];exact hkl) (A,c) (by rw[<-EK.out];exact hx));have hlen:=jq s N ac;obtain⟨v0,hv0⟩:∃v0,(gx s N ac)[k*3]? =some v0:=⟨_,eH (by omega)⟩
   obtain⟨v1,hv1⟩:∃v1,(gx s N ac)[k*3+1]? =some v1:=⟨_,eH (by omega)⟩
   obtain⟨v2,hv2⟩:∃v2,(gx s N ac)[k*3+2]? =some v2:=⟨_,eH (by omega)⟩
   have d0:=hI3.bg.ag (k*3) _ hv0;have d1:=hI3.bg.ag (k*3+1) _ hv1;have d2:=hI3.bg.ag (k*3+2) _ hv2;have f0:=hI3.bg.frozen (k*3);have f1:=hI3.bg.frozen (k*3+1);have f2:=hI3.bg.frozen (k*3+2);obtain⟨n,en⟩:=x_ ((dP s (k:Int)).length)
   rw[<-EK.out, <-en]at HP;rw[<-en];clear hg hperm hpw hsl hI3 hx hlen en hv0 hv1 hv2;go_wp2_with fail
   go_roundw
   case rel=>exact⟨ac++ [(A,c)],by simp[EK.out],by rw[fu, <-EK.out];exact hkl,HP.out⟩
   case measure=>simp[RowKit.intOf];omega
  ·subst hkl;have G:=h_ (FIN.out wr ac ek.symm hfl);have hki: ¬((k:Nat):Int)<(k:Int):=by omega
   clear hfl ek;go_wp2_with fail;(try go_ret);exact G.out
end Go.Proofs.YtkmbmfengcdmoaaGreatDoor
