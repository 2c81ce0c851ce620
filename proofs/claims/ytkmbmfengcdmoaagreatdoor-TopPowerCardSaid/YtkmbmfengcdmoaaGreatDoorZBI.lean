/-
 DERIVED: THE SHELF's CONTRACTS AT THIS DUMP, IN PLAIN WORDS (tools/lay-plain.mjs out of 'YtkmbmfengcdmoaaGreatDoorShelfPSoft.lean', which tools/lay-shelf.mjs wrote): THE SAME DECLARATIONS UNDER THE SAME NAMES: 'import', 'namespace', 'open', 'def', 'theorem' AND NOTHING ELSE: no command of the shelf's: FOR A HAND-IN. Each laying: the table of numbers ('.._ren') and one theorem, a field a fact of the dump's own or the kernel's comparison; each contract: ONE APPLICATION.
-/
import Derived.Test.YtkmbmfengcdmoaaGreatDoorZBH
import Derived.Test.YtkmbmfengcdmoaaGreatDoorZBG
import Derived.Test.YtkmbmfengcdmoaaGreatDoorZAT
import Derived.Test.YtkmbmfengcdmoaaGreatDoorZBF
import Derived.Shelf.Strings.Builder1
import Derived.Shelf.Strings.Builder2
import Derived.Shelf.Small.Bits
import Derived.Shelf.Small.Strs
import Derived.Shelf.Strings.BuilderF
import Derived.Shelf.Strings.BuilderK
import Derived.Shelf.Strconv.Atoi
import Derived.Shelf.Strconv.Itoa0
import Derived.Shelf.Strconv.Itoa1
import Derived.Shelf.LaysM
import Derived.Shelf.Strconv.Itoa2
import Derived.Shelf.Strconv.Itoa3
import Derived.Shelf.Strconv.AtoiErrFast
import Derived.Shelf.Strconv.ParseIntEmpty
import Derived.Shelf.Strconv.AtoiFail
import Derived.Shelf.Strconv.Clone
import Derived.Shelf.Strconv.SyntaxError
import Derived.Shelf.LaysC
import Derived.Shelf.Strconv.ToError
import Derived.Shelf.Strconv.Lower
import Derived.Shelf.Strconv.ParseUint10
import Derived.Shelf.Strconv.ParseUint10Empty
import Derived.Shelf.Strconv.ParseUint10Any
import Derived.Shelf.Strconv.ParseInt10
import Derived.Shelf.Strconv.AtoiLong
import Derived.Shelf.Strconv.AtoiInnerAll
import Derived.Shelf.Strconv.RangeError
import Derived.Shelf.Strconv.ToErrorRange
import Derived.Shelf.Strconv.AtoiAll
import Derived.Shelf.Strconv.ErrVarAll
import Derived.Shelf.Strings.Search1
import Derived.Shelf.Strings.Search2
import Derived.Shelf.Strings.Cut
import Derived.Shelf.Strings.Shaped
import Derived.Shelf.Strconv.AppendUint10
import Derived.Shelf.Strconv.AppendInt10
import Derived.Shelf.Strconv.AppendIntPublic10
import Derived.Shelf.Strings.Prefix
import Derived.Shelf.Bits.Mul64
import Derived.Shelf.Strings.Repeat
import Derived.Ground.Names2Prog
import Derived.Shelf.Slices.Clone
import Derived.Ground.SlgnProg
import Derived.Shelf.SlicesE.Clone
import Derived.Ground.SlgfProg
import Derived.Shelf.SlicesE.IndexFunc
import Derived.Ground.SlsfProg
import Derived.Shelf.SlSortCmp.Insertion
import Derived.Test.YtkmbmfengcdmoaaGreatDoorProg
set_option maxRecDepth 100000
set_option linter.all false
namespace Go.Proofs.YtkmbmfengcdmoaaGreatDoor
open Go.RowKit Go.ay Go.Jn Go.Dk Go.Ho Go.Opn Go.Maps Go.WideMaps Go.Apl Go.Mg Go.Rf Go.Lib Go.Sg
attribute [local go_sem] Oper.semAt_some
noncomputable def HS.file (n:Nat) (s:HS) (x:ei):HS×aV×Int:=
 if s.run=false then(s,aM,22)else if dE s x=false then(s,aM,1)else if gR s=true then(s,aM,18)
 else if((dP s s.me).any λy=>y.ref==x.ref)=true then(s,aM,9)else s.add n x.cJ (iT x)
set_option maxHeartbeats 2000000 in
theorem jr{we w:World}{n:Nat}{p:Pl}{s:HS}(x:ei)(h:HC we w n p s)(hi:lv s)(hx:x.Ok)(hT:cB w)(hE:gK w)(U:s.js.d.aF.length<=900000)(dl:s.js.bW.length<=1000000):
  Calls Tryz.prog 12 #[.pointer (some ⟨p.o.hb,0,none⟩), .agg (bU x).toArray] w (bS we w n p (s.file n x).1 (gM (s.file n x).2)):=by
 obtain⟨R,eR⟩:=x_ (bS we w n p (s.file n x).1 (gM (s.file n x).2))
 rw[<-eR];obtain⟨M,an⟩:=x_ (bU x)
 have gt:M.length=6:=by rw[an];rfl
 obtain⟨V,eV⟩:=x_ ((w.alloc (.cells M.toArray 29)).alloc (.cells #[.int .i64 0, .int .i64 0, .int .i64 0, .string ⟨#[]⟩, .string ⟨#[]⟩, .int .i64 0, .int .i64 0] 42))
 have H:Below w.heap.size w V:=by rw[eV];exact((Below.refl _ _).alloc (aL _) _).alloc (by simp) _
 have gc:ay V w.heap.size M 29:=by rw[eV];exact(ay.new w M 29).alloc _
 have I:ay V (w.heap.size+1) bO 42:=by rw[eV];exact ay.made (l:=bO) (by simp) rfl
 have hV:=h.grow H;have S:=hT.below H (aL _);have m7:=hE.below H (aL _);obtain⟨j,ej,hj⟩:=hi.at;have EV:Hid ((w.alloc (.cells M.toArray 29)).alloc (.cells #[.int .i64 0, .int .i64 0, .int .i64 0, .string ⟨#[]⟩, .string ⟨#[]⟩, .int .i64 0, .int .i64 0] 42)=V):=h_ eV.symm;have HF:Hid (∀a,Below V.heap.size V a->ay a w.heap.size M 29):=h_ λa h=>gc.below h gc.lt
 have P:Hid (∀a,Below V.heap.size V a->ay a (w.heap.size+1) bO 42):=h_ λa h=>I.below h I.lt
 have HK:Hid (∀a,Below V.heap.size V a->a.cell? ⟨p.o.hb,7,none⟩=some (.bool s.run)/\a.cell? ⟨p.o.hb,3,none⟩=some (.int .i64 s.me)):=h_ λa h=>⟨(hV.grow h).hr.bg.ag 7 _ rfl,(hV.grow h).hr.bg.ag 3 _ rfl⟩
 have HM:Hid (∀a,Below V.heap.size V a->a.rangeAt w.heap.size 0 M):=h_ λa h=>rg_of (HF.out a h)
 have HI:=h_ (rK M gt);have HZ:=h_ (cE bO rfl);have Z:Hid (∀u∈bO,u.oneCell'=true):=h_ (cm aM);have FE:Hid (∀a c,s.file n x=(s,aM,c)->Below w.heap.size w a->R (.returned (gM (aM,c))) a):=h_ λa c he f8=>by
  rw[eR,he];exact bS.same h f8 _
 have W:Hid (∀a D,Below V.heap.size V a->a.grownBy D (some (w.heap.size+1))->Below w.heap.size w D):=h_ λa D f8 hg=>by
  have T:=H.trans (f8.mono H.size);exact T.trans (below_grown hg (λg hg=>by injection hg with e;omega) T.size)
 have C1:=h_ (λa (hb:Below V.heap.size V a)=>vM p.o s x a (hV.grow hb).hr);have C2:=h_ (λa (hb:Below V.heap.size V a)=>sH p.o s a (hV.grow hb).hr hi (S.below hb (aL _)));have C3:=h_ (λa (hb:Below V.heap.size V a)=>uU p.o s j a (hV.grow hb).hr hi hj (S.below hb (aL _)) (m7.below hb (aL _)));obtain⟨F,eF⟩:=x_ (dP s s.me)
 rw[<-ej, <-eF]at C3;have m8:F.length<=1000000:=by rw[eF];refine fO (nD s _) ?_;unfold bE fA bJ;rw[jQ,rm,fe];have:=gE s.aw s.me;have:=hi.e.jX;omega
 have m6:s.file n x=if s.run=false then(s,aM,22)else if dE s x=false then(s,aM,1)else if gR s=true then(s,aM,18)else if(F.any λy=>y.ref==x.ref)=true then(s,aM,9)else s.add n x.cJ (iT x):=by rw[eF];rfl
 have E:=h_ m6;have CB:=h_ (λa (hb:Below V.heap.size V a)=>xW x a hx (S.below hb (aL _)));have no:(iT x).size<=400000000:=by have:=om hx 6;unfold iT;omega
 have CA:=h_ (λa (hb:Below V.heap.size V a)=>Ch x.cJ (iT x) (hV.grow hb) hi hx.f0 hx.f1 no (S.below hb (aL _)) U dl);have ER:=h_ eR;have ii:=h_ an;have H0:=h_ h;have i8:=h_ H;have py:=h_ m8;have rt:Hid (w.heap.size+1<V.heap.size):=h_ I.lt;rw[<-an]at C1 CB⊢;obtain⟨q7,_⟩:=HK.out V (Below.refl _ _);have jp:=h_ (P.out V (Below.refl _ _));clear an eR gt eV H gc I hV S m7 ej hj eF m8 m6 no h hi hT hE U dl;cases hrun:s.run with
 |false=>
  rw[hrun]at q7;go_enter Tryz.func12,Tryz.ntmps12;go_wp2_with (first
   |simp only[EV.out]
   |(refine aN (.tmp 4) ?_;refine Hk.aZ rfl 42 (.tmp 4) (.tmp 16) rfl (w.heap.size+1) rfl bO rfl bO 42 jp.out HZ.out rfl Z.out ?_;intro D b i B;have q:=h_ b;have t:=h_ i;clear b i B;simp only[Act.put]))
  refine bodyPost_ret (v:=gM (aM,22)) (Hk.aB (fn:=Tryz.f12) (p:=4) (u:=5) (ty:=42) rfl _ _ (w.heap.size+1) 42 bO.toArray (0,0) _ rfl q.out Tryz.underlying42 rfl (by rw[HZ.out];simp) rfl) rfl ?_;exact FE.out D 22 (by rw[E.out,if_pos hrun]) (W.out V D (Below.refl _ _) t.out)
 |true=>
  rw[hrun]at q7;have d7:=h_ (E.out.trans (if_neg (by rw[hrun];decide)));have li:=h_ (HM.out V (Below.refl _ _));clear E jp;go_enter Tryz.func12,Tryz.ntmps12;go_wp2_with (first
   |simp only[EV.out]
   |(refine aH (.tmp 3) ?_;refine wpList_load_mid rfl 29 (.tmp 3) rfl w.heap.size 0 rfl M _ li.out Tryz.underlying29 rfl HI.out ?_))
  refine(C1.out V (Below.refl _ _)).mono ?_;rintro e w1 ⟨rfl,f9⟩;have X:=h_ f9;have i9:=h_ (P.out w1 f9);clear f9 C1 li q7;cases hv:dE s x with
  |false=>
   go_wp2_with (refine aN (.tmp 4) ?_;refine Hk.aZ rfl 42 (.tmp 4) (.tmp 21) rfl (w.heap.size+1) rfl bO rfl bO 42 i9.out HZ.out rfl Z.out ?_;intro D b i B;have q:=h_ b;have t:=h_ i;clear b i B;simp only[Act.put])
   refine bodyPost_ret (v:=gM (aM,1)) (Hk.aB (fn:=Tryz.f12) (p:=4) (u:=5) (ty:=42) rfl _ _ (w.heap.size+1) 42 bO.toArray (0,0) _ rfl q.out Tryz.underlying42 rfl (by rw[HZ.out];simp) rfl) rfl ?_;exact FE.out D 1 (by rw[d7.out,if_pos hv]) (W.out w1 D X.out t.out)
  |true=>
   have d8:=h_ (d7.out.trans (if_neg (by rw[hv];decide)));clear hv d7 i9;go_wp2_with fail;refine(C2.out w1 X.out).mono ?_;rintro e w2 ⟨rfl,T⟩;have J:=h_ (X.out.trans (T.mono X.out.size));have i':=h_ (P.out w2 J.out);clear T C2;cases hf:gR s with
   |true=>
    go_wp2_with (refine aN (.tmp 4) ?_;refine Hk.aZ rfl 42 (.tmp 4) (.tmp 24) rfl (w.heap.size+1) rfl bO rfl bO 42 i'.out HZ.out rfl Z.out ?_;intro D b i B;have q:=h_ b;have t:=h_ i;clear b i B;simp only[Act.put])
    refine bodyPost_ret (v:=gM (aM,18)) (Hk.aB (fn:=Tryz.f12) (p:=4) (u:=5) (ty:=42) rfl _ _ (w.heap.size+1) 42 bO.toArray (0,0) _ rfl q.out Tryz.underlying42 rfl (by rw[HZ.out];simp) rfl) rfl ?_;exact FE.out D 18 (by rw[d8.out,if_pos hf]) (W.out w2 D J.out t.out)
   |false=>
    have d9:=h_ (d8.out.trans (if_neg (by rw[hf];decide)));obtain⟨_,q3⟩:=HK.out w2 J.out;clear hf d8 i';go_wp2_with fail;refine(C3.out w2 J.out).mono ?_;rintro e w3 ⟨v,rfl,co,nl⟩;have io:=h_ (J.out.trans (nl.mono J.out.size));obtain⟨A,c,rfl,hc,pi⟩:=gV jW co;have m4:=h_ pi;clear nl C3 co pi hc q3;go_wp2_with fail
    go_loopw [32] (λv wr=> ∃k:Nat,v= .int .i64 (k:Int)/\k<=F.length/\Hid (∀y∈F.take k,(y.ref==x.ref)=false)/\Below w3.heap.size w3 wr) (λv _=>(F.length:Int).toNat- (RowKit.intOf v).toNat)
    case atStart=>exact⟨0,rfl,gu _,h_ (by simp),Below.refl _ _⟩
    case round=>
     obtain⟨k,rfl,hk,HN,C⟩:=hrel;have N:=h_ (io.out.trans (C.mono io.out.size));rcases pC hk with L|L
     ·have up:(k:Int)<(F.length:Int):=by omega
      have gt:=py.out;obtain⟨y,ey⟩:∃y,F[k]? =some y:=⟨_,eH L⟩
      have g8:SL wr 6 bU A F:=m4.out.below C (aL _);obtain⟨ab,ao,rfl⟩:=cG g8 (by intro e;rw[e]at L;simp at L);have lm:Hid (wr.rangeAt ab (ao+k*6) (bU y)):=h_ (dq g8 ey);obtain⟨w5,e5⟩:=x_ (wr.alloc (.cells (bU y).toArray 29))
      have G:Below wr.heap.size wr w5:=by rw[e5];exact(Below.refl _ _).alloc (aL _) _
      have d6:=h_ (N.out.trans (G.mono N.out.size));have bi:ay w5 wr.heap.size (bU y) 29:=by rw[e5];exact ay.new wr _ _
      have g0:=bi.ag 0 _ rfl;have g1:=(HF.out w5 d6.out).ag 0 (.int .i64 x.ref) (by rw[ii.out];rfl);have Y:=h_ (rK (bU y) rfl);have mt:=h_ (lQ y);have O:=h_ e5;have pm:=h_ (P.out w5 d6.out);have ip:=h_ (C.trans (G.mono C.size));have ld:=h_ L;have EY:=h_ ey;clear C g8 G bi e5 ey hk;by_cases hr:y.ref=x.ref
      ·have HR:Hid ((F.any λy=>y.ref==x.ref)=true):=h_ (List.any_eq_true.2 ⟨y,ue EY.out,by simpa using hr⟩);have t2:(y.ref==x.ref)=true:=by simpa using hr
       rw[hr]at g0;clear hr t2;go_wp2_with (first
        |(refine aH (.tmp 34) ?_;refine wpList_load_mid rfl 29 (.tmp 34) rfl ab (ao+k*6) rfl (bU y) _ lm.out Tryz.underlying29 rfl Y.out ?_)
        |(refine aN (.tmp 7) ?_;refine Hk.aD rfl 29 (.tmp 7) (.tmp 35) rfl wr.heap.size (bU y).toArray rfl rfl _ 29 rfl (by rw[Y.out];simp) rfl (all_oneCell_toArray mt.out) ?_;rw[<-O.out];simp only[Pt])
        |(refine aN (.tmp 4) ?_;refine Hk.aZ rfl 42 (.tmp 4) (.tmp 41) rfl (w.heap.size+1) rfl bO rfl bO 42 pm.out HZ.out rfl Z.out ?_;intro D b i B;have q:=h_ b;have t:=h_ i;clear b i B;simp only[Act.put]))
       refine bodyPost_ret (v:=gM (aM,9)) (Hk.aB (fn:=Tryz.f12) (p:=4) (u:=5) (ty:=42) rfl _ _ (w.heap.size+1) 42 bO.toArray (0,0) _ rfl q.out Tryz.underlying42 rfl (by rw[HZ.out];simp) rfl) rfl ?_;exact FE.out D 9 (by rw[d9.out,if_pos HR.out]) (W.out w5 D d6.out t.out)
      ·have t2:(y.ref==x.ref)=false:=by simpa using hr
       go_wp2_with (first
        |(refine aH (.tmp 34) ?_;refine wpList_load_mid rfl 29 (.tmp 34) rfl ab (ao+k*6) rfl (bU y) _ lm.out Tryz.underlying29 rfl Y.out ?_)
        |(refine aN (.tmp 7) ?_;refine Hk.aD rfl 29 (.tmp 7) (.tmp 35) rfl wr.heap.size (bU y).toArray rfl rfl _ 29 rfl (by rw[Y.out];simp) rfl (all_oneCell_toArray mt.out) ?_;rw[<-O.out];simp only[Pt]))
       go_roundw
       case rel=>
        refine⟨k+1,by simp,ld.out,h_ λz hz=> ?_,ip.out⟩;rw[zX,EY.out]at hz;rcases zT.1 hz with hz|hz
        ·exact HN.out z hz
        ·simp at hz;subst hz;exact t2
       case measure=>have:=ld.out;simp[RowKit.intOf];omega
     ·subst L;have up: ¬((F.length:Nat):Int)<(F.length:Int):=by omega
      have HR:Hid ((F.any λy=>y.ref==x.ref)=false):=h_ (by
       rw[List.any_eq_false];intro z hz
       have:=HN.out z (by rw[KK];exact hz);rw[this];simp)
      have O:=h_ (d9.out.trans (if_neg (by rw[HR.out];decide)));clear d9 C hk HR HN m4;go_wp2_with fail;obtain⟨r,er⟩:=x_ (s.add n x.cJ (iT x))
      have m9:(s.file n x)=r:=by rw[O.out,er]
      rw[<-er]at CA;obtain⟨s',e',c'⟩:=r;dsimp only at CA;have sm:=h_ m9;obtain⟨es,Q⟩:=x_ (aK e')
      have ge:gM (e',c')= .tuple #[.agg es.toArray, .int .i64 c']:=by rw[Q];rfl
      rw[ge]at CA;have pu:=h_ ge;have kw:=h_ (cE es (by rw[Q];rfl));have rx:Hid (∀u∈es,u.oneCell'=true):=h_ (by rw[Q];exact cm e');have ro:Hid (bO.length=es.length):=h_ (by rw[Q];rfl);have ol:∀k,w.heap.size<=k-> ¬p.F k:=λk hk hF=>by have:=H0.out.lt hF;omega
      have lw:=h_ ol;clear m9 er Q ge ol O;obtain⟨bt,m5⟩:=x_ (iT x)
      rw[<-m5]at CA CB;clear m5;refine Fre7.dZ 8 [4,5] (λst y=>ay y w.heap.size M 29/\ay y (w.heap.size+1) bO 42/\(st<=1->Below V.heap.size V y)/\(st=2->∃w4,Below V.heap.size V w4/\bS we w4 n p s' (.tuple #[.agg es.toArray, .int .i64 c']) (.returned (.tuple #[.agg es.toArray, .int .i64 c'])) y)) (by kernel_rfl) (by kernel_rfl) (by kernel_rfl) ⟨HF.out _ (N.out.trans (Below.refl _ _).drew),P.out _ (N.out.trans (Below.refl _ _).drew),λ_=>N.out.trans (Below.refl _ _).drew,λh=>by cases h⟩ ?_;simp only[eJ,dT];iterate 4 (first|(apply Fre7.ae (Free.wq rfl) rfl;(intro st a m;exact Hk.aU 29 (.tmp 3) rfl w.heap.size 0 rfl M _ (rg_of m.1) Tryz.underlying29 rfl HI.out);simp only[Pt])|(apply Fre7.ae (Free.wq rfl) rfl;(intro st a m;have k4:=m.1.ag 4 (.int .i64 x.cJ) (by rw[ii.out];rfl);clear m;go_light;go_simp<;>rfl);(try simp only[Pt])))
      apply Fre7.gO (Free.wq rfl) (c:=0) rfl
      ·intro a m;refine Fre7.au (f:=26) (args:= #[.agg M.toArray]) (by clear m;go_simp<;>rfl) ?_;have K:=m.2.2.1 (by decide);refine(CB.out a K).mono ?_;rintro e w5 ⟨rfl,G⟩;exact⟨_,rfl,⟨m.1.below G m.1.lt,m.2.1.below G m.2.1.lt,λ_=>K.trans (G.mono K.size),λh=>by cases h⟩,rfl⟩
      simp only[Pt];apply Fre7.gO (Free.wq rfl) (c:=1) rfl
      ·intro a m;refine Fre7.au (f:=48) (args:= #[.pointer (some ⟨p.o.hb,0,none⟩), .int .i64 x.cJ, .string bt]) (by clear m;go_simp<;>rfl) ?_;have K:=m.2.2.1 (by decide);refine(CA.out a K).mono ?_;intro e w5 g7;obtain rfl:=g7.1;have n8:aJ p.F a w5:=by obtain⟨_,p',_,_,_,_,h5,_⟩:=g7;exact h5
       exact⟨_,rfl,⟨m.1.bG (n8.block _ m.1.lt (lw.out _ (aL _))),m.2.1.bG (n8.block _ m.2.1.lt (lw.out _ (by omega))),λh=>by omega,λ_=>⟨a,K,g7⟩⟩,rfl⟩
      simp only[Pt];iterate 2 (apply Fre7.ae (Free.wq rfl) rfl;(intro st a m;clear m;go_light;go_simp<;>rfl);(try simp only[Pt]))
      apply Fre7.ax;intro w6 ul;obtain⟨_,I,_,ci⟩:=ul;have pl:=h_ I;have qr:=h_ (ci rfl);clear I ci;simp only[fm,fo];go_wp2_with (refine aN (.tmp 4) ?_;refine Hk.aZ rfl 42 (.tmp 4) (.tmp 49) rfl (w.heap.size+1) rfl es rfl bO 42 pl.out kw.out ro.out rx.out ?_;intro D b i B;have q:=h_ b;have t:=h_ i;clear b i B;simp only[Act.put])
      refine bodyPost_ret (v:= .tuple #[.agg es.toArray, .int .i64 c']) (Hk.aB (fn:=Tryz.f12) (p:=4) (u:=5) (ty:=42) rfl _ _ (w.heap.size+1) 42 es.toArray (0,0) _ rfl q.out Tryz.underlying42 rfl (by rw[kw.out];simp) rfl) rfl ?_;rw[ER.out,sm.out];obtain⟨w4,C,ut⟩:=qr.out;dsimp only;rw[pu.out];exact bS.tail H0.out (i8.out.trans (C.mono i8.out.size)) ut (by omega) (nX rt.out C.size) t.out
end Go.Proofs.YtkmbmfengcdmoaaGreatDoor
namespace Go.Proofs.YtkmbmfengcdmoaaGreatDoor
open Go.RowKit Go.ay Go.Jn Go.Dk Go.Ho Go.Opn Go.Maps Go.WideMaps Go.Apl Go.Mg Go.Rf Go.Lib
def mV(aw:dv)(k:Nat):List aV:=(List.range k).flatMap fun(j:Nat)=>bJ aw (j:Int)
def ug(s:HS):List aV:=mV s.aw s.aj.toNat
theorem jT(aw:dv)(k:Nat):mV aw (k+1)=mV aw k++bJ aw (k:Int):=by unfold mV;rw[RX,DU];simp
theorem mm(aw:dv)(house:Int):(bJ aw house).length<=aw.length:=by unfold bJ;rw[rm,fe];exact gE _ _
theorem xQ(aw:dv):∀k,(mV aw k).length<=k*aw.length
 |0=>by simp[mV]
 |k+1=>by
  rw[jT,fu,Nat.succ_mul];have a:=xQ aw k;have b:=mm aw (k:Int);omega
def rX(W:World)(L:List aV)(e:Ending)(w':World):Prop:=
 ∃v,e= .returned v/\w'.ownsRow W.heap.size 42 7 v L.length (L.flatMap aK)/\Below W.heap.size W w'
set_option maxHeartbeats 1000000 in
theorem jE(o:Lo)(s:HS)(W:World)(h:HR W o s)(l:lv s):Calls Tryz.prog 14 #[.pointer (some ⟨o.hb,0,none⟩)] W (rX W (ug s)):=by
 obtain⟨R,L⟩:=x_ (rX W (ug s))
 rw[<-L];have M:=l.KI;have A:=l.KH;have U:=l.me;obtain⟨N,K⟩:∃N:Nat,s.aj=(N:Int):=⟨s.aj.toNat,by omega⟩
 have hL:ug s=mV s.aw N:=by unfold ug;rw[K];rfl
 have I:Hid (∀y v,y.ownsRow W.heap.size 42 7 v (mV s.aw N).length ((mV s.aw N).flatMap aK)->Below W.heap.size W y->R (.returned v) y):=h_ λy v h1 h2=>by rw[L,hL];exact⟨v,rfl,h1,h2⟩
 have HN:Hid (N<=12):=h_ (by omega);have Y:Hid (s.aw.length<=1000000):=h_ l.e.jX;have c0:=h.bg.ag 0 _ rfl;rw[K]at c0;have C1:=h_ (fun(j:Nat) y (m:Below W.heap.size W y)=>kZ o s (j:Int) y (h.below m) l.e);clear L h l M A U K hL;go_enter Tryz.func14,Tryz.ntmps14;go_wp2_with fail
 go_loopw [3,11] (λu v wr=> ∃k:Nat,v= .int .i64 (k:Int)/\k<=N/\wr.ownsRow W.heap.size 42 7 u (mV s.aw k).length ((mV s.aw k).flatMap aK)/\Below W.heap.size W wr) (λ_ v _=>(N:Int).toNat- (RowKit.intOf v).toNat)
 case atStart=>exact⟨0,rfl,gu _,by exact World.ownsRow_nil _ _ _ _,Below.refl _ _⟩
 case round=>
  obtain⟨k,rfl,hk,b,m⟩:=hrel;have X:=h_ m;have an:=HN.out;rcases pC hk with q|q
  ·have T:(k:Int)<(N:Int):=by omega
   have C2:=h_ (C1.out k wr m);have Z:=h_ b;have bi:=aO c0 m;clear b m;go_wp2_with fail;refine C2.out.mono ?_;rintro e w2 ⟨g,c,rfl,hc,O,t,n,i⟩;obtain⟨iE,l,E,F,H⟩:=wF;have w:=bC Z.out (λj e=>i.block j (World.ownsRow.lt Z.out j e).2);have r:=xQ s.aw k;have C:=mm s.aw (k:Int);have p:=X.out.size;have D:=i.size;have B:k*s.aw.length<=12*1000000:=Nat.mul_le_mul (by omega) Y.out;have J:Hid (∀(Q:Exit->Act->World->Prop) (x:Array Oper) (f:List Oper) (o:Oper) (a:Act),o.guard=none->o.op= .call {callee:= .builtin .append,args:= #[.tmp 14, .tmp 17],argTypes:= #[56,56]}->a.eval (.tmp 14)=u3->a.eval (.tmp 17)= .slice (some ⟨g,0,none⟩) (bJ s.aw (k:Int)).length c->(∀u z,Hid (z.ownsRow W.heap.size 42 7 u (mV s.aw (k+1)).length ((mV s.aw (k+1)).flatMap aK)/\Below W.heap.size W z)->wpList Tryz.prog x Q f (a.put o.dst u) z)->wpList Tryz.prog x Q (o::f) a w2):=h_ (by
    intro Q x f o a P ho hx hy S;have hf:=Y.out;refine dF P (.tmp 14) (.tmp 17) 56 ho W.heap.size 42 iE _ 72 Tryz.underlying56 l E F H rfl (by decide) bT cm u3 (mV s.aw k).length _ hx w (some ⟨g,0,none⟩) c (bJ s.aw (k:Int)) hy n (by unfold maxLen;omega) (by omega) (by omega) ?_;intro u z h9 d _;refine S u z (h_ ⟨by rw[jT,fu,DU];exact h9,(X.out.trans (i.mono p)).trans ⟨d.os,d.tape,d.output,d.size,λj hj=>d.block j (by omega) (λe=>by have:=(World.ownsRow.lt w j e.symm).1;omega)⟩⟩))
   clear hc O t n i l E F H w r C p D B;go_wp2_with (refine v8 (.tmp 14) (.tmp 17) ?_;refine J.out _ _ _ _ _ rfl rfl rfl rfl ?_;intro u z V;simp only[Pt])
   go_roundw
   case rel=>exact⟨k+1,rfl,q,V.out.1,V.out.2⟩
   case measure=>simp[RowKit.intOf];omega
  ·subst q;have G:=h_ (I.out wr _ b m);have T: ¬((k:Nat):Int)<(k:Int):=by omega
   clear b m;go_wp2_with fail;(try go_ret);exact G.out
theorem Ns:∃i,Tryz.prog.info? 3=some i/\i.zero=some (.int .i64 0)/\i.size=1/\i.bytes=8:=by
 have h:(Tryz.prog.info? 3).map (λi=>(i.zero,i.size,i.bytes))=some (some (.int .i64 0),1,8):=by kernel_rfl
 cases hi:Tryz.prog.info? 3 with
 |none=>rw[hi]at h;cases h
 |some i=>rw[hi]at h;simp only[GK,NS,NO]at h;exact⟨i,rfl,h.1,h.2.1,h.2.2⟩
end Go.Proofs.YtkmbmfengcdmoaaGreatDoor
namespace Go.Proofs
open Go.Shelf
def Tryz.AW:Go.Shelf.Ren:=⟨fun|99=>111|206=>174|n=>n,fun|9=>9|4=>4|3=>3|n=>n,fun|n=>n⟩
theorem Tryz.OS:Go.Proofs.Lays.n99 Tryz.prog Tryz.AW:=by repeat' first|kernel_rfl|decide|intro _|constructor
open Go.RowKit Go.Lib in
theorem Tryz.strings_HasPrefix(s p:ByteArray)(w:World):
  Calls Tryz.prog 111 #[.string s, .string p] w λe w'=>e= .returned (.bool (Lib.hasPrefix s.data.toList p.data.toList))/\w'=w:=Any.strings_HasPrefix Tryz.OS s p w
def Tryz.yH:Go.Shelf.Ren:=⟨fun|101=>112|208=>175|206=>174|n=>n,fun|9=>9|4=>4|3=>3|n=>n,fun|n=>n⟩
theorem Tryz.LO:Go.Proofs.Lays.n101 Tryz.prog Tryz.yH:=by repeat' first|kernel_rfl|decide|intro _|constructor
open Go.RowKit Go.Lib in
theorem Tryz.strings_TrimPrefix(s p:ByteArray)(w:World):
  Calls Tryz.prog 112 #[.string s, .string p] w λe w'=>e= .returned (.string ⟨(Lib.trimPrefix s.data.toList p.data.toList).toArray⟩)/\w'=w:=Any.strings_TrimPrefix Tryz.LO s p w
end Go.Proofs
