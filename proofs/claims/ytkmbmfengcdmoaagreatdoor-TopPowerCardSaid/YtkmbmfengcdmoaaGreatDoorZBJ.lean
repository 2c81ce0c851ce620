/- Package house: Files. Condition: the variables of digest and strconv hold their values. -/
import Derived.Test.YtkmbmfengcdmoaaGreatDoorZBH
import Derived.Test.YtkmbmfengcdmoaaGreatDoorPa2
import Derived.Test.YtkmbmfengcdmoaaGreatDoorZAT
import Derived.Test.YtkmbmfengcdmoaaGreatDoorZBI
import Derived.Test.YtkmbmfengcdmoaaGreatDoorZBG
import Derived.Shelf.SlSortCmp.WholeK
import Derived.Shelf.SlSortCmp.NoneTotal
set_option maxRecDepth 100000
set_option linter.all false
namespace Go.Proofs.YtkmbmfengcdmoaaGreatDoor
open Go.Pa Go.RowKit Go.ay Go.Jn Go.Dk Go.Ho Go.Opn Go.Maps Go.WideMaps Go.Apl Go.Mg Go.Rf Go.Lib Go.Sg
attribute [local go_sem] Oper.semAt_some

theorem Ow{x t:List UInt8}(h:(32:UInt8)∉x):Lib.cut (x++32::t) [32]=(x,t,true):=by
 rcases qi (x++32::t)with⟨_,b⟩|⟨p,r,d,b,e⟩
 ·exact absurd (by simp) b
 ·obtain⟨a,c⟩:=iy h b d;subst a;subst c;unfold Lib.cut;rw[e,if_pos (by omega)];have a:((x.length:Int)).toNat=x.length:=by omega
  rw[a];simp
structure Ng (b4 b5:Nat) (t:List UInt8) (w:World):Prop where
 r:ay w b4 [.string ⟨t.toArray⟩] 9
 k:ay w b5 [.bool true] 4
theorem Ng.below{a b:Nat}{t:List UInt8}{w w':World}(h:Ng a b t w)(c:Below w.heap.size w w'):Ng a b t w':=⟨h.r.below c h.r.lt,h.k.below c h.k.lt⟩
set_option maxHeartbeats 1000000 in
theorem Ji(a b:Nat)(c:a≠b)(n:Int)(t:List UInt8)(w:World)(h:Ng a b (Lib.itoa n++32::t) w)(H: -9223372036854775808<=n)(I:n<=9223372036854775807)(T:t.length<=4000000000)(K:gK w):
  Calls Tryz.prog 108 #[.pointer (some ⟨a,0,none⟩), .pointer (some ⟨b,0,none⟩)] w λe w'=>e= .returned (.int .i64 n)/\Ng a b t w'/\aJ (λk=>k=a\/k=b) w w':=by
 obtain⟨R,B⟩:=x_ (λe w'=>e= .returned (.int .i64 n)/\Ng a b t w'/\aJ (λk=>k=a\/k=b) w w':Ending->World->Prop)
 rw[<-B];have D:(Lib.itoa n).length<=21:=by have:=rG H I;rw[pX]at this;exact this
 have i:=Ct (Lib.itoa n++32::t) w (by simp;omega) K;rw[Ow (cN n)]at i;have y:=λw'=>rD (Lib.itoa n) n w' (by omega) (uJ n H I)
 obtain⟨x,F⟩:=x_ (Lib.itoa n)
 rw[<-F]at i y h;obtain⟨u,C⟩:=x_ (⟨(x++32::t).toArray⟩:ByteArray)
 obtain⟨S,d⟩:=x_ (⟨t.toArray⟩:ByteArray)
 obtain⟨X,f⟩:=x_ (⟨x.toArray⟩:ByteArray)
 have z:Hid (∀v,Below w.heap.size w v->R (.returned (.int .i64 n)) ((v.setCell ⟨b,0,none⟩ (.bool true)).setCell ⟨a,0,none⟩ (.string S))):=h_ λv g=>by
  rw[B,d];have J:=h.below g;refine⟨rfl,⟨?_, ?_⟩,((aJ.aY g).setCell (p:=⟨b,0,none⟩) (λ_=> .inr rfl) _).setCell (p:=⟨a,0,none⟩) (λ_=> .inl rfl) _⟩
  ·exact(J.r.bG (Below.heap_setCell _ _ _ _ (by exact c))).set 0 _
  ·exact(J.k.set 0 (.bool true)).bG (Below.heap_setCell _ _ _ _ (by exact c.symm))
 have E:Hid (∀w',Below w.heap.size w w'->w'.cell? ⟨a,0,none⟩=some (.string u)/\w'.cell? ⟨b,0,none⟩=some (.bool true)/\w'.frozen? ⟨a,0,none⟩=false/\w'.frozen? ⟨b,0,none⟩=false):=h_ λw' g=>by
  rw[C];exact⟨(h.below g).r.ag 0 _ rfl,(h.below g).k.ag 0 _ rfl,(h.below g).r.frozen 0,(h.below g).k.frozen 0⟩
 rw[<-C, <-d, <-f]at i;rw[<-f]at y;have P:=h_ i;have Q:=h_ y;obtain⟨L,M,_,_⟩:=E.out w (Below.refl _ _);have A:=h_ c;clear B D i y F C d f h K c;go_enter Tryz.func108,Tryz.ntmps108;go_wp2_with fail;refine P.out.mono ?_;rintro e v ⟨rfl,m⟩;have j:=h_ m;clear m L M;go_wp2_with fail;refine(Q.out v).mono ?_;rintro e O ⟨rfl,o⟩;have l:=h_ (j.out.trans (o.mono j.out.size));clear o;obtain⟨L,M,U,V⟩:=E.out O l.out;have c:=A.out;have G:=h_ (z.out O l.out);go_wp2_with fail;(try go_ret);exact G.out
theorem Pn(e:aV):(aP e).data.toList=Lib.itoa e.r++32::(Lib.itoa e.s++32::([101,110,116,114,121,32]++(Lib.itoa e.house++32::(Lib.itoa e.seq++32::(Lib.itoa e.day++32::(Lib.itoa (e.prev.size:Int)++32::(e.prev.data.toList++e.body.data.toList))))))):=by rw[wY,BS];rfl
theorem Da(p s:List UInt8):Lib.hasPrefix (p++s) p=true:=by unfold Lib.hasPrefix;simp
theorem Km(p s:List UInt8):Lib.trimPrefix (p++s) p=s:=by unfold Lib.trimPrefix;rw[Da];simp
structure ud (W:World) (t:List UInt8) (w:World):Prop where
 nx:Ng (W.heap.size+1) (W.heap.size+1+1) t w
 res:ay w W.heap.size bO 42
 below:Below W.heap.size W w
structure xN (W:World) (t:List UInt8) (q:Nat) (cs:List Value) (w:World):Prop where
 s:ud W t w
 e:ay w q cs 42
 lo:W.heap.size+3<=q
section
variable {W w w':World} {t t':List UInt8} {q:Nat} {cs:List Value}
theorem ud.next(h:ud W t w)(b:Ng (W.heap.size+1) (W.heap.size+1+1) t' w')(a:aJ (λk=>k=W.heap.size+1\/k=W.heap.size+1+1) w w'):ud W t' w':=
 ⟨b,h.res.bG (a.block _ h.res.lt (by omega)),h.below.trans (a.below (λk e=>by omega) h.below.size)⟩
theorem ud.grow(h:ud W t w)(a:Below w.heap.size w w'):ud W t w':=⟨h.nx.below a,h.res.below a h.res.lt,h.below.trans (a.mono h.below.size)⟩
theorem ud.put(h:ud W t w)(t':List UInt8):ud W t' (w.setCell ⟨W.heap.size+1,0,none⟩ (.string ⟨t'.toArray⟩)):=
 ⟨⟨h.nx.r.set 0 _,h.nx.k.bG (Below.heap_setCell _ _ _ _ (by show W.heap.size+1+1≠W.heap.size+1;omega))⟩,h.res.bG (Below.heap_setCell _ _ _ _ (by show W.heap.size≠W.heap.size+1;omega)),h.below.trans (di (a:=⟨W.heap.size+1,0,none⟩) (by show W.heap.size<=W.heap.size+1;omega) _)⟩
theorem xN.next(h:xN W t q cs w)(b:ud W t' w')(a:aJ (λk=>k=W.heap.size+1\/k=W.heap.size+1+1) w w'):xN W t' q cs w':=
 ⟨b,h.e.bG (a.block _ h.e.lt (by have:=h.lo;omega)),h.lo⟩
theorem xN.grow(h:xN W t q cs w)(a:Below w.heap.size w w'):xN W t q cs w':=⟨h.s.grow a,h.e.below a h.e.lt,h.lo⟩
theorem xN.put(h:xN W t q cs w)(t':List UInt8):xN W t' q cs (w.setCell ⟨W.heap.size+1,0,none⟩ (.string ⟨t'.toArray⟩)):=
 ⟨h.s.put t',h.e.bG (Below.heap_setCell _ _ _ _ (by have:=h.lo;show q≠W.heap.size+1;omega)),h.lo⟩
theorem xN.set(h:xN W t q cs w)(k:Nat)(v:Value):xN W t q (cs.set k v) (w.setCell ⟨q,k,none⟩ v):=
 have c:=h.lo;have b:∀j,j≠q->(w.setCell ⟨q,k,none⟩ v).heap[j]? =w.heap[j]? :=λj d=>Below.heap_setCell _ _ _ _ (by exact d)
 ⟨⟨⟨h.s.nx.r.bG (b _ (by omega)),h.s.nx.k.bG (b _ (by omega))⟩,h.s.res.bG (b _ (by omega)),h.s.below.trans (di (a:=⟨q,k,none⟩) (by show W.heap.size<=q;omega) _)⟩,h.e.set k v,c⟩
end
theorem mJ(W:World)(g:gK W)(n:Int)(t:List UInt8)(w:World)(h:ud W (Lib.itoa n++32::t) w)(d: -9223372036854775808<=n)(f:n<=9223372036854775807)(i:t.length<=4000000000):
  Calls Tryz.prog 108 #[.pointer (some ⟨W.heap.size+1,0,none⟩), .pointer (some ⟨W.heap.size+1+1,0,none⟩)] w λe w'=>e= .returned (.int .i64 n)/\ud W t w'/\aJ (λk=>k=W.heap.size+1\/k=W.heap.size+1+1) w w':=
 (Ji _ _ (by omega) n t w h.nx d f i (g.below h.below (aL _))).mono λ_ _ ⟨a,b,c⟩=>⟨a,h.next b c,c⟩
set_option maxHeartbeats 2000000 in
theorem za(a:aV)(W:World)(b:a.Ok)(hp:a.prev.size<=1000000)(U:a.body.size<=1000000)(hT:cB W)(M:gK W):
  Calls Tryz.prog 67 #[.string (aP a)] W λe w'=>e= .returned (.tuple #[fv a, .bool true])/\Below W.heap.size W w':=by
 obtain⟨R,eR⟩:=x_ (λe w'=>e= .returned (.tuple #[fv a, .bool true])/\Below W.heap.size W w':Ending->World->Prop)
 rw[<-eR];obtain⟨text,A⟩:=x_ (aP a)
 obtain⟨V,eV⟩:=x_ ((((W.alloc (.cells #[.int .i64 0, .int .i64 0, .int .i64 0, .string ⟨#[]⟩, .string ⟨#[]⟩, .int .i64 0, .int .i64 0] 42)).alloc (.cells #[.string text] 9)).alloc (.cells #[.bool true] 4)))
 have g8:text=⟨(aP a).data.toList.toArray⟩:=by rw[A]
 obtain⟨P,e7⟩:=x_ (a.prev.data.toList++a.body.data.toList)
 have m4:P.length<=2000000:=by
   rw[e7,fu];have e1:a.prev.data.toList.length=a.prev.size:=by simp
   have T:a.body.data.toList.length=a.body.size:=by simp
   omega
 have j:∀n:Int, -9223372036854775808<=n->n<=9223372036854775807->(Lib.itoa n).length<=21:=λn h0 h1=>by have:=rG h0 h1;rw[pX]at this;exact this
 have m: -9223372036854775808<=(a.prev.size:Int)/\(a.prev.size:Int)<=9223372036854775807:=by omega
 obtain⟨t6,e6⟩:=x_ (Lib.itoa (a.prev.size:Int)++32::P)
 have mt:t6.length<=2000100:=by rw[e6,fu,kq];have:=j _ m.1 m.2;omega
 obtain⟨t5,e5⟩:=x_ (Lib.itoa a.day++32::t6)
 have lw:t5.length<=2000200:=by rw[e5,fu,kq];have:=j _ b.d0 b.d1;omega
 obtain⟨t4,e4⟩:=x_ (Lib.itoa a.seq++32::t5)
 have lm:t4.length<=2000300:=by rw[e4,fu,kq];have:=j _ b.q0 b.q1;omega
 obtain⟨D,z⟩:=x_ (Lib.itoa a.house++32::t4)
 have li:D.length<=2000400:=by rw[z,fu,kq];have:=j _ b.h0 b.h1;omega
 obtain⟨C,T⟩:=x_ ([101,110,116,114,121,32]++D:List UInt8)
 have ld:C.length<=2000500:=by rw[T,fu];simp;omega
 obtain⟨X,e1⟩:=x_ (Lib.itoa a.s++32::C)
 have kw:X.length<=2000600:=by rw[e1,fu,kq];have:=j _ b.s0 b.s1;omega
 have G:(aP a).data.toList=Lib.itoa a.r++32::X:=by rw[Pn,e1,T,z,e4,e5,e6,e7]
 have d6:ud W (Lib.itoa a.r++32::X) V:=by
  rw[<-G,eV];refine⟨⟨?_, ?_⟩, ?_,((((Below.refl _ _).alloc (aL _) _).alloc (by simp) _).alloc (by simp;omega) _)⟩
  ·rw[<-g8];exact(ay.made (l:= [.string text]) (by simp) rfl).alloc _
  ·exact ay.made (l:= [.bool true]) (by simp) rfl
  ·exact((ay.new W bO 42).alloc _).alloc _
 have EV:Hid ((((W.alloc (.cells #[.int .i64 0, .int .i64 0, .int .i64 0, .string ⟨#[]⟩, .string ⟨#[]⟩, .int .i64 0, .int .i64 0] 42)).alloc (.cells #[.string text] 9)).alloc (.cells #[.bool true] 4))=V):=h_ eV.symm;have N1:=h_ (mJ W M a.r X V d6 b.r0 b.r1 (by omega));have N2:=h_ (λw (h:ud W X w)=>mJ W M a.s C w (by rw[<-e1];exact h) b.s0 b.s1 (by omega));have N3:=h_ (λw (h:ud W D w)=>mJ W M a.house t4 w (by rw[<-z];exact h) b.h0 b.h1 (by omega));have N4:=h_ (λw (h:ud W t4 w)=>mJ W M a.seq t5 w (by rw[<-e4];exact h) b.q0 b.q1 (by omega));have N5:=h_ (λw (h:ud W t5 w)=>mJ W M a.day t6 w (by rw[<-e5];exact h) b.d0 b.d1 (by omega));have N6:=h_ (λw (h:ud W t6 w)=>mJ W M (a.prev.size:Int) P w (by rw[<-e6];exact h) m.1 m.2 (by omega));obtain⟨S,B⟩:=x_ (⟨C.toArray⟩:ByteArray)
 obtain⟨x3,K⟩:=x_ (⟨D.toArray⟩:ByteArray)
 obtain⟨o,L⟩:=x_ (⟨P.toArray⟩:ByteArray)
 have CH:Hid (∀w,Calls Tryz.prog 111 #[.string S, .string ⟨#[101,110,116,114,121,32]⟩] w λe w'=>e= .returned (.bool true)/\w'=w):=h_ λw=>by
  have h:=Tryz.strings_HasPrefix S ⟨#[101,110,116,114,121,32]⟩ w;have e:Lib.hasPrefix S.data.toList (⟨#[101,110,116,114,121,32]⟩:ByteArray).data.toList=true:=by rw[B,T];exact Da _ _
  rw[e]at h;exact h
 have CT:Hid (∀w,Calls Tryz.prog 112 #[.string S, .string ⟨#[101,110,116,114,121,32]⟩] w λe w'=>e= .returned (.string x3)/\w'=w):=h_ λw=>by
  have h:=Tryz.strings_TrimPrefix S ⟨#[101,110,116,114,121,32]⟩ w;have e:Lib.trimPrefix S.data.toList (⟨#[101,110,116,114,121,32]⟩:ByteArray).data.toList=D:=by rw[B,T];exact Km _ _
  rw[e, <-K]at h;exact h
 have B2:Hid (∀w,ud W C w->w.cell? ⟨W.heap.size+1,0,none⟩=some (.string S)/\w.frozen? ⟨W.heap.size+1,0,none⟩=false):=h_ λw h=>by rw[B];exact⟨h.nx.r.ag 0 _ rfl,h.nx.r.frozen 0⟩
 have P3:Hid (∀w q cs,xN W C q cs w->xN W D q cs (w.setCell ⟨W.heap.size+1,0,none⟩ (.string x3))):=h_ λw q cs h=>by rw[K];exact h.put D
 have B7:Hid (∀w,ud W P w->w.cell? ⟨W.heap.size+1,0,none⟩=some (.string o)/\w.cell? ⟨W.heap.size+1+1,0,none⟩=some (.bool true)):=h_ λw h=>by rw[L];exact⟨h.nx.r.ag 0 _ rfl,h.nx.k.ag 0 _ rfl⟩
 have X7:Hid (o.extract 0 a.prev.size=a.prev/\o.extract a.prev.size o.size=a.body/\o.size=a.prev.size+a.body.size):=h_ (by
  have hx:o=a.prev++a.body:=by rw[L,e7];apply Sl;simp
  rw[hx];exact⟨ByteArray.extract_append_eq_left rfl,ByteArray.extract_append_eq_right rfl (by simp),by simp⟩)
 have CR:=h_ (λw hT=>nI a w b (by omega) (by omega) hT);have HT:Hid (∀w,Below W.heap.size W w->cB w):=h_ λw h=>hT.below h (aL _)
 have ER:=h_ eR;have i':Hid (a.prev.size<=1000000/\a.body.size<=1000000):=h_ ⟨hp,U⟩;have SZ:Hid (∀w,ud W C w->W.heap.size+3<=w.heap.size):=h_ λw h=>by have:=h.nx.k.lt;omega
 have i8:Hid (∀cs:List Value,cs.length=7->(Tryz.prog.info? 42).map (·.size)=some cs.length):=h_ cE;have ii:=h_ A;clear eR b hT M hp U eV g8 e7 m4 j m e6 mt e5 lw e4 lm z li T ld e1 kw G d6 B K L;rw[<-A];clear A;go_enter Tryz.func67,Tryz.ntmps67;go_wp2_with (simp only[EV.out])
 refine N1.out.mono ?_;rintro e w1 ⟨rfl,f9,_⟩;have S1:=h_ f9;clear f9 N1;go_wp2_with fail;refine(N2.out w1 S1.out).mono ?_;rintro e Q ⟨rfl,O,_⟩;obtain⟨I,z⟩:=x_ (Q.alloc (.cells #[.int .i64 0, .int .i64 0, .int .i64 0, .string ⟨#[]⟩, .string ⟨#[]⟩, .int .i64 a.r, .int .i64 a.s] 42))
 have Q3:Hid (xN W C Q.heap.size [.int .i64 0, .int .i64 0, .int .i64 0, .string ⟨#[]⟩, .string ⟨#[]⟩, .int .i64 a.r, .int .i64 a.s] I):=h_ (by
  have U:Below Q.heap.size Q I:=by rw[z];exact(Below.refl _ _).alloc (aL _) _
  exact⟨O.grow U,by rw[z];exact ay.new Q [.int .i64 0, .int .i64 0, .int .i64 0, .string ⟨#[]⟩, .string ⟨#[]⟩, .int .i64 a.r, .int .i64 a.s] 42,SZ.out Q O⟩)
 have Z:=h_ z.symm;obtain⟨q2,f2⟩:=B2.out I Q3.out.s;clear O N2 S1 z;go_wp2_with (simp only[Z.out])
 refine(CH.out I).mono ?_;rintro e I ⟨rfl,rfl⟩;go_wp2_with fail;refine(CT.out I).mono ?_;rintro e I ⟨rfl,rfl⟩;have Q4:=h_ (P3.out I _ _ Q3.out);obtain⟨q,eq⟩:=x_ Q.heap.size
 rw[<-eq]at Q4⊢;clear Q3 Z CH CT eq;go_wp2_with fail;refine(N3.out _ Q4.out.s).mono ?_;rintro e w5 ⟨rfl,gc,d7⟩;have Q5:=h_ (Q4.out.next gc d7);clear gc d7 Q4 q2 f2 N3;go_wp2_with fail;refine(N4.out _ Q5.out.s).mono ?_;rintro e w6 ⟨rfl,ge,d8⟩;have Q6:=h_ (Q5.out.next ge d8);clear ge d8 Q5 N4;go_wp2_with fail;refine(N5.out _ Q6.out.s).mono ?_;rintro e w7 ⟨rfl,gt,d9⟩;have F:=h_ (Q6.out.next gt d9);clear gt d9 Q6 N5;have k0:=F.out.e.ag 0 _ rfl;have k1:=F.out.e.ag 1 _ rfl;have k2:=F.out.e.ag 2 _ rfl;have f0:=F.out.e.frozen 0;have f1:=F.out.e.frozen 1;have f2:=F.out.e.frozen 2;have Q8:=h_ (((F.out.set 0 (.int .i64 a.house)).set 1 (.int .i64 a.seq)).set 2 (.int .i64 a.day));clear F;go_wp2_with fail;refine(N6.out _ Q8.out.s).mono ?_;rintro e w9 ⟨rfl,g7,f8⟩;have Q9:=h_ (Q8.out.next g7 f8);clear g7 f8 Q8 N6 k0 k1 k2 f0 f1 f2;obtain⟨b1,b2⟩:=B7.out w9 Q9.out.s;obtain⟨hp,U⟩:=i'.out;have X:decide ((a.prev.size:Int)<0)=false:=dy (by omega);have C:decide ((o.size:Int)<(a.prev.size:Int))=false:=dy (by rw[X7.out.2.2];omega);have D: ¬(o.size<a.prev.size):=by rw[X7.out.2.2];omega
 have t4:decide (o.size<a.prev.size)=false:=dy D;have t5:a.prev.size<=o.size:=by omega
 clear hp U;go_wp2_with fail;refine Fre7.dZ 10 [7,9] (λst y=>xN W P q ([.int .i64 a.house, .int .i64 a.seq, .int .i64 a.day,(if st=0 then .string ⟨#[]⟩else .string a.prev),(if st<=1 then .string ⟨#[]⟩else .string a.body), .int .i64 a.r, .int .i64 a.s]) y) (by kernel_rfl) (by kernel_rfl) (by kernel_rfl) (Q9.out.grow (Below.refl _ _).drew) ?_;simp only[eJ,dT];clear b1 b2;iterate 7 (apply Fre7.ae (Free.wq rfl) rfl;(intro st w' d;have q4:=(B7.out w' d.s).1;clear d;go_light;go_simp<;>rfl);(try simp only[Pt]))
 simp only[X7.out.1,X7.out.2.1];apply Fre7.gO (Free.wq rfl) (c:=0) rfl
 ·intro w' d;have g3:=d.e.ag 3 (.string ⟨#[]⟩) rfl;have p3:=d.e.frozen 3;exact Fre7.tg (w':=w'.setCell ⟨q,3,none⟩ (.string a.prev)) (by clear d;go_light;go_simp<;>rfl) ⟨d.set 3 (.string a.prev),rfl⟩
 simp only[Pt];iterate 1 (apply Fre7.ae (Free.wq rfl) rfl;(intro st w' d;clear d;go_light;go_simp<;>rfl);(try simp only[Pt]))
 apply Fre7.gO (Free.wq rfl) (c:=1) rfl
 ·intro w' d;have g3:=d.e.ag 4 (.string ⟨#[]⟩) rfl;have p3:=d.e.frozen 4;exact Fre7.tg (w':=w'.setCell ⟨q,4,none⟩ (.string a.body)) (by clear d;go_light;go_simp<;>rfl) ⟨d.set 4 (.string a.body),rfl⟩
 simp only[Pt];apply Fre7.ax;intro E d;simp only[fm,fo];obtain⟨cs,i⟩:=x_ (aK a)
 have hQ:xN W P q cs E:=by rw[i];exact d
 have ci:=h_ hQ;have x:=h_ (i8.out cs (by rw[i];rfl));have i9:Hid (∀u∈cs,u.oneCell'=true):=h_ (by rw[i];exact cm a);have an:Hid (E.rangeAt q 0 cs):=h_ (rg_of hQ.e);have J:=CR.out E (HT.out E hQ.s.below);rw[<-i, <-ii.out]at J;have Y:=h_ i;clear hQ i d Q9;go_wp2_with (refine aH (.tmp 7) ?_;refine wpList_load_mid rfl 42 (.tmp 7) rfl q 0 rfl cs _ an.out Tryz.underlying42 rfl x.out ?_)
 refine J.mono ?_;rintro e m5 ⟨rfl,H⟩;have f:=h_ (ci.out.grow H);have bi:Hid (m5.rangeAt q 0 cs):=h_ (rg_of f.out.e);clear H J;go_wp2_with (first
  |(refine aH (.tmp 7) ?_;refine wpList_load_mid rfl 42 (.tmp 7) rfl q 0 rfl cs _ bi.out Tryz.underlying42 rfl x.out ?_)
  |(refine aN (.tmp 2) ?_;refine Hk.aZ rfl 42 (.tmp 2) (.tmp 60) rfl W.heap.size rfl cs rfl bO 42 f.out.s.res x.out (by rw[Y.out];rfl) i9.out ?_;intro w9 co dl jp;have io:=h_ co;have ip:=h_ dl;clear co dl jp;simp only[Act.put]))
 refine bodyPost_ret (v:= .tuple #[.agg cs.toArray, .bool true]) (Hk.aB (fn:=Tryz.f67) (p:=2) (u:=3) (ty:=42) rfl _ _ W.heap.size 42 cs.toArray (0,0) _ rfl io.out Tryz.underlying42 rfl (by rw[x.out];simp) rfl) rfl ?_;rw[ER.out,Y.out];exact⟨rfl,f.out.s.below.trans (below_grown ip.out (λg hg=>by injection hg with e;omega) f.out.s.below.size)⟩
end Go.Proofs.YtkmbmfengcdmoaaGreatDoor
namespace Go.Proofs.YtkmbmfengcdmoaaGreatDoor
open Go.RowKit Go.ay Go.Jn Go.Dk Go.Ho Go.Opn Go.Maps Go.WideMaps Go.Apl Go.Mg Go.Rf Go.Lib Go.Sg
abbrev Nd:= {x:ei // 0<=x.ref/\x.ref<=1000000}
instance:Inhabited Nd:=⟨⟨⟨0,0,0,0,0,false⟩,by decide⟩⟩
def iV(x:Nd):List Value:=bU x.1
def PK(x y:Nd):Int:=x.1.ref-y.1.ref
theorem LX(x y:Nd):ltOf PK x y=decide (x.1.ref<y.1.ref):=by unfold ltOf PK;rw[PC];omega
theorem Ts:Sort.SWO (ltOf PK) where
 irrefl x:=by rw[LX];simp
 trans x y z h1 h2:=by rw[LX]at*;simp at*;omega
 ntrans x y z h1 h2:=by rw[LX]at*;simp at*;omega
set_option maxHeartbeats 1000000 in
theorem OC(x y:Nd)(W:World):Calls Tryz.prog 72 #[.agg (iV x).toArray, .agg (iV y).toArray] W λe w'=>e= .returned (.int .i64 (PK x y))/\∃q h,w'=Sort.grow (W.drewN q) h:=by
 obtain⟨cs,b⟩:=x_ (iV x)
 obtain⟨f,c⟩:=x_ (iV y)
 rw[<-b, <-c];have d:Row (W.alloc (.cells cs.toArray 29)) W.heap.size 29 cs:=Row.new _ _ _;have a:Row ((W.alloc (.cells cs.toArray 29)).alloc (.cells f.toArray 29)) W.heap.size 29 cs:=d.below ((Below.refl _ _).alloc (aL _) _) d.lt;have g:Row ((W.alloc (.cells cs.toArray 29)).alloc (.cells f.toArray 29)) (W.heap.size+1) 29 f:=by
  have:=Row.new (W.alloc (.cells cs.toArray 29)) 29 f
  rwa[show(W.alloc (.cells cs.toArray 29)).heap.size=W.heap.size+1 by simp]at this
 have j:=a.at (show cs[0]? =some (.int .i64 x.1.ref) by rw[b];rfl);have k:=g.at (show f[0]? =some (.int .i64 y.1.ref) by rw[c];rfl);have l:=x.2;have m:=y.2;have i:IntKind.i64.wrap (x.1.ref-y.1.ref)=x.1.ref-y.1.ref:=by simp[IntKind.wrap,IntKind.bits,IntKind.signed];omega
 unfold PK;clear d a g b c;go_enter Tryz.func72,Tryz.ntmps72;go_wp2_with fail;go_ret;exact⟨by first|rfl|rw[i],0,_,by rw[Sort.alloc_eq_grow,Sort.alloc_eq_grow,Sort.grow_grow];rfl⟩
theorem LA(args:Array Value)(w:World):(callFunc 72 args).run Tryz.prog w= .ok (.enter 72 args) w:=enters_of Tryz.func72 (by kernel_rfl) rfl args w
theorem Di:∀(b:List ei),(∀x∈b,0<=x.ref/\x.ref<=1000000)->∃a:List Nd,a.map Subtype.val=b
 | [],_=>⟨[],rfl⟩
 |x::r,h=>by
  obtain⟨a,c⟩:=Di r λy d=>h y (by simp[d])
  exact⟨⟨x,h x (by simp)⟩::a,by simp[c]⟩
theorem Es(x:Nd):(iV x).length=6:=rfl
theorem Iy(a:List Nd):(a.map Subtype.val).flatMap bU=a.flatMap iV:=by rw[List.flatMap_map];rfl
set_option maxHeartbeats 1000000 in
theorem MO(l:List ei)(base:Nat)(v:Value)(W:World)(h:W.ownsRow base 29 6 v l.length (l.flatMap bU))(hn:∀x∈l,0<=x.ref/\x.ref<=1000000)(hl:l.length<=1000000):
  Calls Tryz.prog 71 #[v, .func (.func 72) #[] #[]] W λe w'=>e= .returned (.tuple #[])/\W.grownBy w' v.ownBlock/\∃B A c,v= .slice A l.length c/\B.Perm l/\B.Pairwise (λa b=>a.ref<=b.ref)/\SL w' 6 bU A B:=by
 by_cases Y:l= []
 ·subst Y;obtain⟨A,c,rfl⟩:=fG h;refine(AnyF.slices_SortFunc_none Tryz.TU A c _ W).mono ?_;rintro e w' ⟨rfl,rfl⟩;exact⟨rfl,⟨rfl,rfl,rfl,aL _,λ_ _ _=>rfl⟩,[],A,c,rfl,P5 _,List.Pairwise.nil,SL.nil⟩
 obtain⟨f,J⟩:=Di l hn;obtain⟨g,D,an,rfl,hb,K,bi,hm,ht,_⟩:=Apl.tm (ec:=bU) (λ_=>rfl) h Y;have d:f.toArray.size=l.length:=by rw[<-J];simp
 have F:g<W.heap.size:=(iS.1 K).1;have hH:Sort.HoldsK iV 6 W g 0 f.toArray:=by
  intro j r;rw[Sort.size_flatK]at r;rw[Sort.get_flatK _ _ _ _ r,nW];refine⟨?_,by simp[World.frozen?,K]⟩;have P:j<l.length*6:=by rw[<-d];exact r
  have z:j / 6<f.length:=by
   have:f.length=l.length:=by rw[<-d];simp
   omega
  have X:(l.flatMap bU)[j]? =some (iV f[j / 6]!)[j % 6]! :=by
   rw[<-J,Iy]
   have:=Apl.mF (ec:=iV) Es f (j / 6) f[j / 6] (j % 6) (iV f[j / 6])[j % 6]! (eH z) (by
    rw[KN (iV f[j / 6]) (j % 6) (M3 _ (by decide))];exact eH _)
   rw[show j / 6*6+j % 6=j by omega]at this;rw[this,KN f (j / 6) z]
  rw[<-ht,qC,if_pos P]at X;have e2:f.toArray[j / 6]! =f[j / 6]! :=by simp
  rw[e2];simp only[World.cell?,K];simp only[Option.isSome_none,GA,B6];simpa using X
 have C:=AnyQ.slices_SortFunc Tryz.TU 6 Tryz.isAgg29 Tryz.sizeOf29 iV (λ_=>rfl) (λx v hv=>lQ _ v hv) PK Ts 72 #[] g 0 D f.toArray W LA (λm V dk _ x y=>OC x y _) hH F (by rw[d];omega);rw[d]at C;refine C.mono ?_;rintro e w' ⟨rfl,n,m,V,S,hs,rfl⟩;have H:n.size=l.length:=S.1.trans d;have I:=Go.Proofs.holdsK_sortWorldK_c iV 6 W g 0 f.toArray n m V hH F S.1;refine⟨rfl,⟨rfl,rfl,rfl,Go.Proofs.size_sortWorldK_c iV 6 W g 0 m n V,λk hk R=> ?_⟩,n.toList.map Subtype.val,some ⟨g,0,none⟩,D,rfl, ?_, ?_, ?_⟩
 ·have Q:g≠k:=λe=>R (by rw[e];rfl)
  unfold sortWorldK;rw[Sort.heap_grow_old _ _ (by unfold Sort.putRowK;rw[Sort.size_putRow];exact hk)];simp[Sort.putRowK,Sort.putRow,Sort.mapBlock,Sort.ahead,vS,Q]
 ·have o:=S.2.2;have Z:n.extract 0 l.length=n:=by rw[<-H];simp
  have h5:f.toArray.extract 0 l.length=f.toArray:=by rw[<-d];simp
  rw[Z,h5]at o;rw[<-J];exact o.map _
 ·rw[List.pairwise_map,List.pairwise_iff_getElem];intro i j hi r M;have o:=hs i j (gu _) M (by rw[<-H];simpa using r);rw[LX]at o;have L:i<n.size:=by simpa using hi
  have O:j<n.size:=by simpa using r
  rw[KN n i L,KN n j O]at o;have Z:=of_decide_eq_false o;show n.toList[i].1.ref<=n.toList[j].1.ref;rw[Array.getElem_toList,Array.getElem_toList];omega
 ·refine⟨λ_=>⟨g,0,rfl,λj x r p u hu=> ?_⟩⟩;rw[mx]at r;obtain⟨y,hy,rfl⟩:=Option.map_eq_some_iff.1 r;have E:j<n.size:=by have:=(jS.1 hy).1;simpa using this
  have G:p<6:=(jS.1 hu).1;have o:=(I.cell E G).1;have U:n[j]! =y:=by
   rw[KN n j E]
   have:=(jS.1 hy).2;simpa using this
  rw[U]at o;have T:(iV y)[p]! =u:=by rw[KN (iV y) p G];exact(jS.1 hu).2
  rw[T,Nat.add_assoc]at o;exact o
abbrev Ac:=Option Addr×Nat
noncomputable def Iv (s:HS) (j:Nat) (x:Ac):List Value:= [.int .i64 (j:Int), .slice x.1 (dP s j).length x.2, .slice none 0 0]
def sF:List Value:= [.int .i64 0, .slice none 0 0, .slice none 0 0]
noncomputable def jY (s:HS) (ac:List Ac) (j:Nat):List Value:=match ac[j]? with
 |some x=>Iv s j x
 |none=>sF
theorem qd(s:HS)(ac:List Ac)(j:Nat):(jY s ac j).length=3:=by unfold jY;split<;>rfl
noncomputable def gx (s:HS) (N:Nat) (ac:List Ac):List Value:=(List.range N).flatMap (jY s ac)
theorem jq(s:HS)(N:Nat)(ac:List Ac):(gx s N ac).length=N*3:=by unfold gx;rw[jZ (qd s ac),List.length_range]
theorem mE{s:HS}{N:Nat}{ac:List Ac}{j p:Nat}(a:j<N)(c:p<3):(gx s N ac)[j*3+p]? =(jY s ac j)[p]? :=by have b:=qd s ac j;rw[eH (by omega:p<(jY s ac j).length)];exact Apl.mF (ec:=jY s ac) (qd s ac) (List.range N) j j p _ (by rw[List.getElem?_range a]) (eH _)
theorem yA{s:HS}{N:Nat}{ac:List Ac}{x:Ac}(m:ac.length<N):(((gx s N ac).set (ac.length*3) (.int .i64 (ac.length:Int))).set (ac.length*3+1) (.slice x.1 (dP s ac.length).length x.2)).set (ac.length*3+2) (.slice none 0 0)=gx s N (ac++ [x]):=by
 apply rC;intro i;by_cases l:i<N*3
 ·have e:i=i / 3*3+i % 3:=by omega
  obtain⟨j,f⟩:=x_ (i / 3)
  obtain⟨p,g⟩:=x_ (i % 3)
  rw[<-f, <-g]at e;have c:j<N:=by omega
  have d:p<3:=by omega
  subst e;rw[mE c d];have k:=jq s N ac;simp only[Sd,List.length_set,k];by_cases b:j=ac.length
  ·subst b;have a:jY s (ac++ [x]) ac.length=Iv s ac.length x:=by unfold jY;simp
   rw[a]
   have:p=0\/p=1\/p=2:=by omega
   rcases this with rfl|rfl|rfl
   ·rw[if_neg (by omega),if_neg (by omega),if_pos (by omega),if_pos (by omega)];rfl
   ·rw[if_neg (by omega),if_pos (by omega),if_pos (by omega)];rfl
   ·rw[if_pos (by omega),if_pos (by omega)];rfl
  ·rw[if_neg (by omega),if_neg (by omega),if_neg (by omega),mE c d];have a:jY s (ac++ [x]) j=jY s ac j:=by
    unfold jY;by_cases h:j<ac.length
    ·rw[xL h]
    ·rw[BW (by omega),pz (show ac.length<=j by omega),pz (by simp;omega)]
   rw[a]
 ·rw[pz (by simp only[List.length_set,jq];omega),pz (by rw[jq];omega)]
theorem Hf{s:HS}{F:List ei}{e:aV}(h:∀x∈F,0<=x.ref/\x.ref<=1000000):∀x∈kx s F e,0<=x.ref/\x.ref<=1000000:=by
 unfold kx;split
 ·exact h
 ·split
  ·rename_i x c b;intro y a;rcases zT.1 a with a|a
   ·exact h y a
   ·rw[vU]at a;subst a;simp only[ua]at b
    have:=b.1;unfold dE at this;simp only[ua,uD]at this;omega
  ·exact h
theorem uW(s:HS):∀(C:List aV) (F:List ei),(∀x∈F,0<=x.ref/\x.ref<=1000000)->∀x∈C.foldl (kx s) F,0<=x.ref/\x.ref<=1000000
 | [],F,h=>h
 |e::C,F,h=>uW s C _ (Hf h)
theorem Az(s:HS)(house:Int):∀x∈dP s house,0<=x.ref/\x.ref<=1000000:=uW s _ [] (λx a=>by cases a)
def DX(lo:Nat)(w:World)(x:Ac)(F:List ei):Prop:=
 ∃l:List ei,l.Perm F/\l.Pairwise (λa b=>a.ref<=b.ref)/\SL w 6 bU x.1 l/\F.length<=x.2/\∀b,x.1.map (·.block)=some b->lo<b/\b<w.heap.size
theorem DX.bD{c:Nat}{w w':World}{x:Ac}{F:List ei}(h:DX c w x F)(k:w.heap.size<=w'.heap.size)(j:∀b,c<b->b<w.heap.size->w'.heap[b]? =w.heap[b]?):DX c w' x F:=by obtain⟨l,d,f,g,i,a⟩:=h;exact⟨l,d,f,jw g (λb e=>j b (a b e).1 (a b e).2),i,λb e=>⟨(a b e).1,nX (a b e).2 k⟩⟩
structure Cb (W:World) (s:HS) (N:Nat) (ac:List Ac) (w:World):Prop where
 bg:ay w W.heap.size (gx s N ac) 81
 fs:∀(j:Nat) (x:Ac),ac[j]? =some x->DX W.heap.size w x (dP s (j:Int))
 below:Below W.heap.size W w
section
variable {W w w':World} {s:HS} {N:Nat} {ac:List Ac}
theorem Cb.grow(h:Cb W s N ac w)(a:Below w.heap.size w w'):Cb W s N ac w':=
 ⟨h.bg.below a h.bg.lt,λj x e=>(h.fs j x e).bD a.size (λb _ c=>a.block b c),h.below.trans (a.mono h.below.size)⟩
theorem Cb.own{B:Nat}{r:Option Nat}(h:Cb W s N ac w)(p:w.heap.size<=B)(i:Below w.heap.size w w'){l:World}(a:w'.grownBy l r)(n:∀g,r=some g->B<=g):Cb W s N ac l:=by
 have o:=i.size;have c:∀k,k<w.heap.size->some k≠r:=λk m e=>by have:=n k e.symm;omega
 have f:=h.grow i;refine⟨f.bg.bG (a.block _ f.bg.lt (c _ h.bg.lt)),λj x e=>(h.fs j x e).bD (fO o a.size) (λb _ d=>by rw[a.block b (by omega) (c b d),i.block b d]),f.below.trans ⟨a.os,a.tape,a.output,a.size,λk m=>a.block k (by have:=f.bg.lt;omega) (c k (by have:=h.bg.lt;omega))⟩⟩
theorem Cb.push(h:Cb W s N ac w)(i:ac.length<N)(x:Ac)(k:DX W.heap.size w x (dP s (ac.length:Int))):
  Cb W s N (ac++ [x]) (((w.setCell ⟨W.heap.size,ac.length*3,none⟩ (.int .i64 (ac.length:Int))).setCell ⟨W.heap.size,ac.length*3+1,none⟩ (.slice x.1 (dP s (ac.length:Int)).length x.2)).setCell ⟨W.heap.size,ac.length*3+2,none⟩ (.slice none 0 0)):=by
 have c:∀b,W.heap.size<b->(((w.setCell ⟨W.heap.size,ac.length*3,none⟩ (.int .i64 (ac.length:Int))).setCell ⟨W.heap.size,ac.length*3+1,none⟩ (.slice x.1 (dP s (ac.length:Int)).length x.2)).setCell ⟨W.heap.size,ac.length*3+2,none⟩ (.slice none 0 0)).heap[b]? =w.heap[b]? :=λb d=>by
  rw[Below.heap_setCell _ _ _ _ (by show b≠W.heap.size;omega),Below.heap_setCell _ _ _ _ (by show b≠W.heap.size;omega),Below.heap_setCell _ _ _ _ (by show b≠W.heap.size;omega)]
 refine⟨by rw[<-yA i];exact((h.bg.set _ _).set _ _).set _ _,λj y e=> ?_,((h.below.trans (di (a:=⟨W.heap.size,_,none⟩) (aL _) _)).trans (di (a:=⟨W.heap.size,_,none⟩) (aL _) _)).trans (di (a:=⟨W.heap.size,_,none⟩) (aL _) _)⟩;by_cases g:j<ac.length
 ·rw[xL g]at e;exact(h.fs j y e).bD (by simp) (λb d _=>c b d)
 ·by_cases f:j=ac.length
  ·subst f;simp at e;subst e;exact k.bD (by simp) (λb d _=>c b d)
  ·rw[pz (by simp;omega)]at e;cases e
end
def GQ(W:World)(s:HS)(N:Nat)(e:Ending)(w':World):Prop:=
 e= .returned (.slice (some ⟨W.heap.size,0,none⟩) N N)/\∃ac:List Ac,ac.length=N/\Cb W s N ac w'
theorem OP:∃i,Tryz.prog.info? 81=some i/\i.zero=some (.agg sF.toArray)/\i.size=3/\i.bytes=56:=by
 have h:(Tryz.prog.info? 81).map (λi=>(i.zero,i.size,i.bytes))=some (some (.agg sF.toArray),3,56):=by kernel_rfl
 cases hi:Tryz.prog.info? 81 with
 |none=>rw[hi]at h;cases h
 |some i=>rw[hi]at h;simp only[GK,NS,NO]at h;exact⟨i,rfl,h.1,h.2.1,h.2.2⟩
theorem A7(s:HS)(N:Nat):madeCells (Value.agg sF.toArray).cells (N*3)=(gx s N []).toArray:=by
 apply M5;apply rC;intro i;show(madeCells sF.toArray (N*3)).toList[i]? =(gx s N [])[i]?;by_cases b:i<N*3
 ·have e:(gx s N [])[i]? =sF[i % 3]? :=by have h:=mE (s:=s) (N:=N) (ac:= []) (j:=i / 3) (p:=i % 3) (by omega) (by omega);rw[show i / 3*3+i % 3=i by omega]at h;rw[h];rfl
  rw[e];have a:i % 3=0\/i % 3=1\/i % 3=2:=by omega
  rcases a with a|a|a<;>simp[madeCells,b,a,sF]
 ·rw[pz (by simp[madeCells];omega),pz (by rw[jq];omega)]
theorem Je(s:HS)(n:Nat)(d:n<=4000)(W:World):(Instr.makeSlice 77 (.int .i64 (n:Int)) (.int .i64 (n:Int))).run Tryz.prog W= .ok (.slice (some ⟨W.heap.size,0,none⟩) n n) (W.alloc (.cells (gx s n []).toArray 81)):=by obtain⟨i,a,hz,b,c⟩:=OP;have h:=run_make (P:=Tryz.prog) W 77 81 i _ Tryz.underlying77 a hz .i64 .i64 (n:Int) (n:Int) (by omega) (by omega) (by rw[c];omega) (by omega);rw[h,b,tZ,A7 s]
set_option maxHeartbeats 1000000 in
theorem EH(o:Lo)(s:HS)(W:World)(N:Nat)(eN:s.aj=(N:Int))(h:HR W o s)(y:lv s)(hT:cB W)(hE:gK W):Calls Tryz.prog 28 #[.pointer (some ⟨o.hb,0,none⟩)] W (GQ W s N):=by
 obtain⟨R,L⟩:=x_ (GQ W s N)
 rw[<-L];have P:=y.KI;have I:Hid (∀w' ac,ac.length=N->Cb W s N ac w'->R (.returned (.slice (some ⟨W.heap.size,0,none⟩) N N)) w'):=h_ λw' ac h1 h2=>by rw[L];exact⟨rfl,ac,h1,h2⟩
 have HN:Hid (N<=12):=h_ (by omega);have X:=y.pn;have HF:Hid (∀j:Nat,(dP s (j:Int)).length<=1000000):=h_ λj=>by
  refine fO (nD s _) ?_;unfold bE fA bJ;rw[jQ,rm,fe];have:=gE s.aw (j:Int);have:=y.e.jX;omega
 have c0:=h.bg.ag 0 _ rfl;rw[eN]at c0;have C1:=h_ (fun(j:Nat) (hj:j<N) w' (hb:Below W.heap.size W w')=>uU o s j w' (h.below hb) y (by omega) (hT.below hb (aL _)) (hE.below hb (aL _)));have U:=Je s N (by omega) W;obtain⟨V,M⟩:=x_ (W.alloc (.cells (gx s N []).toArray 81))
 rw[<-M]at U;have HV:Hid (Cb W s N [] V):=h_ (by rw[M];exact⟨ay.new W _ _,λj x e=>by simp at e,(Below.refl _ _).alloc (aL _) _⟩);clear L h y hT hE P eN X M;go_enter Tryz.func28,Tryz.ntmps28;go_wp2_with fail
 go_loopw [15] (λv wr=> ∃ac:List Ac,v= .int .i64 (ac.length:Int)/\ac.length<=N/\Cb W s N ac wr) (λv _=>(N:Int).toNat- (RowKit.intOf v).toNat)
 case atStart=>exact⟨[],rfl,gu _,HV.out⟩
 case round=>
  obtain⟨ac,rfl,hk,f⟩:=hrel;have Y:=h_ f;have an:=HN.out;obtain⟨k,r⟩:=x_ ac.length
  rw[<-r]at hk⊢;rcases pC hk with i|i
  ·have T:(k:Int)<(N:Int):=by omega
   have C2:=h_ (C1.out k i wr f.below);have p:=h_ r;clear f r;go_wp2_with fail;refine C2.out.mono ?_;rintro e w2 ⟨v,rfl,l,u⟩;have CS:=h_ (MO (dP s (k:Int)) (wr.heap.size+4) v w2 l (Az s _) (HF.out k));have K:=h_ l;have J:=h_ u;clear l u;go_wp2_with fail;refine CS.out.mono ?_;rintro e w3 ⟨rfl,S,l',A,c,rfl,m,C,D⟩;have d:Cb W s N ac w3:=Y.out.own (B:=wr.heap.size) (aL _) J.out S (λg e=>by have:=(World.ownsRow.lt K.out g e).1;omega);have hx:DX W.heap.size w3 (A,c) (dP s (k:Int)):=by
    obtain⟨A',c',e',Q,_⟩:=gV jW K.out;injection e' with e1 _ e3;subst e1;subst e3;refine⟨l',m,C,D,Q,λb e=> ?_⟩;have bi:=World.ownsRow.lt K.out b (by
     cases A with
     |none=>cases e
     |some a=>exact e)
    have:=Y.out.bg.lt
    have:=S.size;omega
   have Z:=h_ (d.push (by rw[<-p.out];exact i) (A,c) (by rw[<-p.out];exact hx));have z:=jq s N ac;obtain⟨v0,E⟩:∃v0,(gx s N ac)[k*3]? =some v0:=⟨_,eH (by omega)⟩
   obtain⟨v1,F⟩:∃v1,(gx s N ac)[k*3+1]? =some v1:=⟨_,eH (by omega)⟩
   obtain⟨v2,H⟩:∃v2,(gx s N ac)[k*3+2]? =some v2:=⟨_,eH (by omega)⟩
   have d0:=d.bg.ag (k*3) _ E;have d1:=d.bg.ag (k*3+1) _ F;have d2:=d.bg.ag (k*3+2) _ H;have f0:=d.bg.frozen (k*3);have f1:=d.bg.frozen (k*3+1);have f2:=d.bg.frozen (k*3+2);obtain⟨n,O⟩:=x_ ((dP s (k:Int)).length)
   rw[<-p.out, <-O]at Z;rw[<-O];clear S m C D d hx z O E F H;go_wp2_with fail
   go_roundw
   case rel=>exact⟨ac++ [(A,c)],by simp[p.out],by rw[fu, <-p.out];exact i,Z.out⟩
   case measure=>simp[RowKit.intOf];omega
  ·subst i;have G:=h_ (I.out wr ac r.symm f);have T: ¬((k:Nat):Int)<(k:Int):=by omega
   clear f r;go_wp2_with fail;(try go_ret);exact G.out
end Go.Proofs.YtkmbmfengcdmoaaGreatDoor
