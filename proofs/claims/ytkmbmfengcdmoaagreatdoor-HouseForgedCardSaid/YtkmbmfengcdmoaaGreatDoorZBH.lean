/-
 DERIVED: THE SHELF's CONTRACTS AT THIS DUMP, IN PLAIN WORDS (tools/lay-plain.mjs out of 'YtkmbmfengcdmoaaGreatDoorShelfPSoft.lean', which tools/lay-shelf.mjs wrote): THE SAME DECLARATIONS UNDER THE SAME NAMES: 'import', 'namespace', 'open', 'def', 'theorem' AND NOTHING ELSE: no command of the shelf's: FOR A HAND-IN. Each laying: the table of numbers ('.._ren') and one theorem, a field a fact of the dump's own or the kernel's comparison; each contract: ONE APPLICATION.
-/
import Derived.Test.YtkmbmfengcdmoaaGreatDoorZBG
import Derived.Test.YtkmbmfengcdmoaaGreatDoorZBF
import Derived.Test.YtkmbmfengcdmoaaGreatDoorZAS
import Derived.Test.YtkmbmfengcdmoaaGreatDoorZBE
import Derived.Shelf.Strings.Builder1
import Derived.Shelf.Strings.Builder2
import Derived.Shelf.Small.Bits
import Derived.Shelf.Small.Strs
import Derived.Shelf.Strings.BuilderF
import Derived.Shelf.Strings.BuilderK
import Derived.Shelf.Strconv.Atoi
import Derived.Shelf.Strconv.Itoa0
import Derived.Shelf.Strconv.Itoa1
import Derived.Shelf.LaysM
import Derived.Shelf.Strconv.Itoa2
import Derived.Shelf.Strconv.Itoa3
import Derived.Shelf.Strconv.AtoiErrFast
import Derived.Shelf.Strconv.ParseIntEmpty
import Derived.Shelf.Strconv.AtoiFail
import Derived.Shelf.Strconv.Clone
import Derived.Shelf.Strconv.SyntaxError
import Derived.Shelf.LaysC
import Derived.Shelf.Strconv.ToError
import Derived.Shelf.Strconv.Lower
import Derived.Shelf.Strconv.ParseUint10
import Derived.Shelf.Strconv.ParseUint10Empty
import Derived.Shelf.Strconv.ParseUint10Any
import Derived.Shelf.Strconv.ParseInt10
import Derived.Shelf.Strconv.AtoiLong
import Derived.Shelf.Strconv.AtoiInnerAll
import Derived.Shelf.Strconv.RangeError
import Derived.Shelf.Strconv.ToErrorRange
import Derived.Shelf.Strconv.AtoiAll
import Derived.Shelf.Strconv.ErrVarAll
import Derived.Shelf.Strings.Search1
import Derived.Shelf.Strings.Search2
import Derived.Shelf.Strings.Cut
import Derived.Shelf.Strings.Shaped
import Derived.Shelf.Strconv.AppendUint10
import Derived.Shelf.Strconv.AppendInt10
import Derived.Shelf.Strconv.AppendIntPublic10
import Derived.Shelf.Strings.Prefix
import Derived.Shelf.Bits.Mul64
import Derived.Shelf.Strings.Repeat
import Derived.Ground.Names2Prog
import Derived.Shelf.Slices.Clone
import Derived.Ground.SlgnProg
import Derived.Shelf.SlicesE.Clone
import Derived.Ground.SlgfProg
import Derived.Shelf.SlicesE.IndexFunc
import Derived.Ground.SlsfProg
import Derived.Shelf.SlSortCmp.Insertion
import Derived.Test.YtkmbmfengcdmoaaGreatDoorProg
set_option maxRecDepth 100000
set_option linter.all false
namespace Go.Proofs.YtkmbmfengcdmoaaGreatDoor
open Go.RowKit Go.ay Go.Jn Go.Dk Go.Ho Go.Opn Go.Maps Go.WideMaps Go.Apl Go.Mg Go.Rf Go.Lib Go.Sg
attribute [local go_sem] Oper.semAt_some
noncomputable def HS.file (n:Nat) (s:HS) (x:ei):HS×aV×Int:=
 if s.run=false then(s,aM,22)else if dE s x=false then(s,aM,1)else if gR s=true then(s,aM,18)
 else if((dP s s.me).any λy=>y.ref==x.ref)=true then(s,aM,9)else s.add n x.cJ (iT x)
set_option maxHeartbeats 2000000 in
theorem jr{we w:World}{n:Nat}{p:Pl}{s:HS}(x:ei)(h:HC we w n p s)(hi:lv s)(hx:x.Ok)(hT:cB w)(hE:gK w)(hpend:s.js.d.aF.length<=900000)(hrec:s.js.bW.length<=1000000):
  Calls Tryz.prog 12 #[.pointer (some ⟨p.o.hb,0,none⟩), .agg (bU x).toArray] w (bS we w n p (s.file n x).1 (gM (s.file n x).2)):=by
 obtain⟨R,eR⟩:=x_ (bS we w n p (s.file n x).1 (gM (s.file n x).2))
 rw[<-eR];obtain⟨fs,efs⟩:=x_ (bU x)
 have hfl:fs.length=6:=by rw[efs];rfl
 obtain⟨V,eV⟩:=x_ ((w.alloc (.cells fs.toArray 29)).alloc (.cells #[.int .i64 0, .int .i64 0, .int .i64 0, .string ⟨#[]⟩, .string ⟨#[]⟩, .int .i64 0, .int .i64 0] 42))
 have hbV:Below w.heap.size w V:=by rw[eV];exact((Below.refl _ _).alloc (aL _) _).alloc (by simp) _
 have hbf:ay V w.heap.size fs 29:=by rw[eV];exact(ay.new w fs 29).alloc _
 have hbe:ay V (w.heap.size+1) bO 42:=by rw[eV];exact ay.made (l:=bO) (by simp) rfl
 have hV:=h.grow hbV;have hTV:=hT.below hbV (aL _);have hEV:=hE.below hbV (aL _);obtain⟨j,ej,hj⟩:=hi.at;have EV:Hid ((w.alloc (.cells fs.toArray 29)).alloc (.cells #[.int .i64 0, .int .i64 0, .int .i64 0, .string ⟨#[]⟩, .string ⟨#[]⟩, .int .i64 0, .int .i64 0] 42)=V):=h_ eV.symm;have HF:Hid (∀w',Below V.heap.size V w'->ay w' w.heap.size fs 29):=h_ λw' h=>hbf.below h hbf.lt
 have HEn:Hid (∀w',Below V.heap.size V w'->ay w' (w.heap.size+1) bO 42):=h_ λw' h=>hbe.below h hbe.lt
 have HK:Hid (∀w',Below V.heap.size V w'->w'.cell? ⟨p.o.hb,7,none⟩=some (.bool s.run)/\w'.cell? ⟨p.o.hb,3,none⟩=some (.int .i64 s.me)):=h_ λw' h=>⟨(hV.grow h).hr.bg.ag 7 _ rfl,(hV.grow h).hr.bg.ag 3 _ rfl⟩
 have HM:Hid (∀w',Below V.heap.size V w'->w'.rangeAt w.heap.size 0 fs):=h_ λw' h=>rg_of (HF.out w' h)
 have HI:=h_ (rK fs hfl);have HZ:=h_ (cE bO rfl);have HZ1:Hid (∀u∈bO,u.oneCell'=true):=h_ (cm aM);have FE:Hid (∀w' c,s.file n x=(s,aM,c)->Below w.heap.size w w'->R (.returned (gM (aM,c))) w'):=h_ λw' c he hb'=>by
  rw[eR,he];exact bS.same h hb' _
 have HB0:Hid (∀w' w9,Below V.heap.size V w'->w'.grownBy w9 (some (w.heap.size+1))->Below w.heap.size w w9):=h_ λw' w9 hb' hg=>by
  have hb2:=hbV.trans (hb'.mono hbV.size);exact hb2.trans (below_grown hg (λg hg=>by injection hg with e;omega) hb2.size)
 have C1:=h_ (λw' (hb:Below V.heap.size V w')=>vM p.o s x w' (hV.grow hb).hr);have C2:=h_ (λw' (hb:Below V.heap.size V w')=>sH p.o s w' (hV.grow hb).hr hi (hTV.below hb (aL _)));have C3:=h_ (λw' (hb:Below V.heap.size V w')=>uU p.o s j w' (hV.grow hb).hr hi hj (hTV.below hb (aL _)) (hEV.below hb (aL _)));obtain⟨F,eF⟩:=x_ (dP s s.me)
 rw[<-ej, <-eF]at C3;have hFl:F.length<=1000000:=by rw[eF];refine fO (nD s _) ?_;unfold bE fA bJ;rw[jQ,rm,fe];have:=gE s.aw s.me;have:=hi.e.jX;omega
 have hE0:s.file n x=if s.run=false then(s,aM,22)else if dE s x=false then(s,aM,1)else if gR s=true then(s,aM,18)else if(F.any λy=>y.ref==x.ref)=true then(s,aM,9)else s.add n x.cJ (iT x):=by rw[eF];rfl
 have HFILE:=h_ hE0;have CB:=h_ (λw' (hb:Below V.heap.size V w')=>xW x w' hx (hTV.below hb (aL _)));have hbd:(iT x).size<=400000000:=by have:=om hx 6;unfold iT;omega
 have CA:=h_ (λw' (hb:Below V.heap.size V w')=>Ch x.cJ (iT x) (hV.grow hb) hi hx.f0 hx.f1 hbd (hTV.below hb (aL _)) hpend hrec);have ER:=h_ eR;have EFS:=h_ efs;have H0:=h_ h;have HBV:=h_ hbV;have HFL:=h_ hFl;have HLT:Hid (w.heap.size+1<V.heap.size):=h_ hbe.lt;rw[<-efs]at C1 CB⊢;obtain⟨q7,_⟩:=HK.out V (Below.refl _ _);have HEV:=h_ (HEn.out V (Below.refl _ _));clear efs eR hfl eV hbV hbf hbe hV hTV hEV ej hj eF hFl hE0 hbd h hi hT hE hpend hrec;cases hrun:s.run with
 |false=>
  rw[hrun]at q7;go_enter Tryz.func12,Tryz.ntmps12;go_wp2_with (first
   |simp only[EV.out]
   |(refine aN (.tmp 4) ?_;refine Hk.aZ rfl 42 (.tmp 4) (.tmp 16) rfl (w.heap.size+1) rfl bO rfl bO 42 HEV.out HZ.out rfl HZ1.out ?_;intro w9 h91 h92 h93;have H91:=h_ h91;have H92:=h_ h92;clear h91 h92 h93;simp only[Act.put]))
  refine bodyPost_ret (v:=gM (aM,22)) (Hk.aB (fn:=Tryz.f12) (p:=4) (u:=5) (ty:=42) rfl _ _ (w.heap.size+1) 42 bO.toArray (0,0) _ rfl H91.out Tryz.underlying42 rfl (by rw[HZ.out];simp) rfl) rfl ?_;exact FE.out w9 22 (by rw[HFILE.out,if_pos hrun]) (HB0.out V w9 (Below.refl _ _) H92.out)
 |true=>
  rw[hrun]at q7;have HE2:=h_ (HFILE.out.trans (if_neg (by rw[hrun];decide)));have HM0:=h_ (HM.out V (Below.refl _ _));clear HFILE HEV;go_enter Tryz.func12,Tryz.ntmps12;go_wp2_with (first
   |simp only[EV.out]
   |(refine aH (.tmp 3) ?_;refine wpList_load_mid rfl 29 (.tmp 3) rfl w.heap.size 0 rfl fs _ HM0.out Tryz.underlying29 rfl HI.out ?_))
  refine(C1.out V (Below.refl _ _)).mono ?_;rintro e w1 ⟨rfl,hb1⟩;have HB1:=h_ hb1;have HC1:=h_ (HEn.out w1 hb1);clear hb1 C1 HM0 q7;cases hv:dE s x with
  |false=>
   go_wp2_with (refine aN (.tmp 4) ?_;refine Hk.aZ rfl 42 (.tmp 4) (.tmp 21) rfl (w.heap.size+1) rfl bO rfl bO 42 HC1.out HZ.out rfl HZ1.out ?_;intro w9 h91 h92 h93;have H91:=h_ h91;have H92:=h_ h92;clear h91 h92 h93;simp only[Act.put])
   refine bodyPost_ret (v:=gM (aM,1)) (Hk.aB (fn:=Tryz.f12) (p:=4) (u:=5) (ty:=42) rfl _ _ (w.heap.size+1) 42 bO.toArray (0,0) _ rfl H91.out Tryz.underlying42 rfl (by rw[HZ.out];simp) rfl) rfl ?_;exact FE.out w9 1 (by rw[HE2.out,if_pos hv]) (HB0.out w1 w9 HB1.out H92.out)
  |true=>
   have HE3:=h_ (HE2.out.trans (if_neg (by rw[hv];decide)));clear hv HE2 HC1;go_wp2_with fail;refine(C2.out w1 HB1.out).mono ?_;rintro e w2 ⟨rfl,hb2⟩;have HB2:=h_ (HB1.out.trans (hb2.mono HB1.out.size));have HC2:=h_ (HEn.out w2 HB2.out);clear hb2 C2;cases hf:gR s with
   |true=>
    go_wp2_with (refine aN (.tmp 4) ?_;refine Hk.aZ rfl 42 (.tmp 4) (.tmp 24) rfl (w.heap.size+1) rfl bO rfl bO 42 HC2.out HZ.out rfl HZ1.out ?_;intro w9 h91 h92 h93;have H91:=h_ h91;have H92:=h_ h92;clear h91 h92 h93;simp only[Act.put])
    refine bodyPost_ret (v:=gM (aM,18)) (Hk.aB (fn:=Tryz.f12) (p:=4) (u:=5) (ty:=42) rfl _ _ (w.heap.size+1) 42 bO.toArray (0,0) _ rfl H91.out Tryz.underlying42 rfl (by rw[HZ.out];simp) rfl) rfl ?_;exact FE.out w9 18 (by rw[HE3.out,if_pos hf]) (HB0.out w2 w9 HB2.out H92.out)
   |false=>
    have HE4:=h_ (HE3.out.trans (if_neg (by rw[hf];decide)));obtain⟨_,q3⟩:=HK.out w2 HB2.out;clear hf HE3 HC2;go_wp2_with fail;refine(C3.out w2 HB2.out).mono ?_;rintro e w3 ⟨v,rfl,hown,hb3⟩;have HB3:=h_ (HB2.out.trans (hb3.mono HB2.out.size));obtain⟨A,c,rfl,hc,hsl⟩:=gV jW hown;have HSL:=h_ hsl;clear hb3 C3 hown hsl hc q3;go_wp2_with fail
    go_loopw [32] (λv wr=> ∃k:Nat,v= .int .i64 (k:Int)/\k<=F.length/\Hid (∀y∈F.take k,(y.ref==x.ref)=false)/\Below w3.heap.size w3 wr) (λv _=>(F.length:Int).toNat- (RowKit.intOf v).toNat)
    case atStart=>exact⟨0,rfl,gu _,h_ (by simp),Below.refl _ _⟩
    case round=>
     obtain⟨k,rfl,hk,HN,hb4⟩:=hrel;have HB4:=h_ (HB3.out.trans (hb4.mono HB3.out.size));rcases pC hk with hkl|hkl
     ·have hki:(k:Int)<(F.length:Int):=by omega
      have hfl:=HFL.out;obtain⟨y,ey⟩:∃y,F[k]? =some y:=⟨_,eH hkl⟩
      have hs4:SL wr 6 bU A F:=HSL.out.below hb4 (aL _);obtain⟨ab,ao,rfl⟩:=cG hs4 (by intro e;rw[e]at hkl;simp at hkl);have HMY:Hid (wr.rangeAt ab (ao+k*6) (bU y)):=h_ (dq hs4 ey);obtain⟨w5,e5⟩:=x_ (wr.alloc (.cells (bU y).toArray 29))
      have hb5:Below wr.heap.size wr w5:=by rw[e5];exact(Below.refl _ _).alloc (aL _) _
      have HB5:=h_ (HB4.out.trans (hb5.mono HB4.out.size));have hbky:ay w5 wr.heap.size (bU y) 29:=by rw[e5];exact ay.new wr _ _
      have g0:=hbky.ag 0 _ rfl;have g1:=(HF.out w5 HB5.out).ag 0 (.int .i64 x.ref) (by rw[EFS.out];rfl);have HIY:=h_ (rK (bU y) rfl);have HOY:=h_ (lQ y);have HE5:=h_ e5;have HCE:=h_ (HEn.out w5 HB5.out);have HB35:=h_ (hb4.trans (hb5.mono hb4.size));have HKL:=h_ hkl;have EY:=h_ ey;clear hb4 hs4 hb5 hbky e5 ey hk;by_cases hr:y.ref=x.ref
      ·have HR:Hid ((F.any λy=>y.ref==x.ref)=true):=h_ (List.any_eq_true.2 ⟨y,ue EY.out,by simpa using hr⟩);have t2:(y.ref==x.ref)=true:=by simpa using hr
       rw[hr]at g0;clear hr t2;go_wp2_with (first
        |(refine aH (.tmp 34) ?_;refine wpList_load_mid rfl 29 (.tmp 34) rfl ab (ao+k*6) rfl (bU y) _ HMY.out Tryz.underlying29 rfl HIY.out ?_)
        |(refine aN (.tmp 7) ?_;refine Hk.aD rfl 29 (.tmp 7) (.tmp 35) rfl wr.heap.size (bU y).toArray rfl rfl _ 29 rfl (by rw[HIY.out];simp) rfl (all_oneCell_toArray HOY.out) ?_;rw[<-HE5.out];simp only[Pt])
        |(refine aN (.tmp 4) ?_;refine Hk.aZ rfl 42 (.tmp 4) (.tmp 41) rfl (w.heap.size+1) rfl bO rfl bO 42 HCE.out HZ.out rfl HZ1.out ?_;intro w9 h91 h92 h93;have H91:=h_ h91;have H92:=h_ h92;clear h91 h92 h93;simp only[Act.put]))
       refine bodyPost_ret (v:=gM (aM,9)) (Hk.aB (fn:=Tryz.f12) (p:=4) (u:=5) (ty:=42) rfl _ _ (w.heap.size+1) 42 bO.toArray (0,0) _ rfl H91.out Tryz.underlying42 rfl (by rw[HZ.out];simp) rfl) rfl ?_;exact FE.out w9 9 (by rw[HE4.out,if_pos HR.out]) (HB0.out w5 w9 HB5.out H92.out)
      ·have t2:(y.ref==x.ref)=false:=by simpa using hr
       go_wp2_with (first
        |(refine aH (.tmp 34) ?_;refine wpList_load_mid rfl 29 (.tmp 34) rfl ab (ao+k*6) rfl (bU y) _ HMY.out Tryz.underlying29 rfl HIY.out ?_)
        |(refine aN (.tmp 7) ?_;refine Hk.aD rfl 29 (.tmp 7) (.tmp 35) rfl wr.heap.size (bU y).toArray rfl rfl _ 29 rfl (by rw[HIY.out];simp) rfl (all_oneCell_toArray HOY.out) ?_;rw[<-HE5.out];simp only[Pt]))
       go_roundw
       case rel=>
        refine⟨k+1,by simp,HKL.out,h_ λz hz=> ?_,HB35.out⟩;rw[zX,EY.out]at hz;rcases zT.1 hz with hz|hz
        ·exact HN.out z hz
        ·simp at hz;subst hz;exact t2
       case measure=>have:=HKL.out;simp[RowKit.intOf];omega
     ·subst hkl;have hki: ¬((F.length:Nat):Int)<(F.length:Int):=by omega
      have HR:Hid ((F.any λy=>y.ref==x.ref)=false):=h_ (by
       rw[List.any_eq_false];intro z hz
       have:=HN.out z (by rw[KK];exact hz);rw[this];simp)
      have HE5:=h_ (HE4.out.trans (if_neg (by rw[HR.out];decide)));clear HE4 hb4 hk HR HN HSL;go_wp2_with fail;obtain⟨r,er⟩:=x_ (s.add n x.cJ (iT x))
      have hT2:(s.file n x)=r:=by rw[HE5.out,er]
      rw[<-er]at CA;obtain⟨s',e',c'⟩:=r;dsimp only at CA;have HT2:=h_ hT2;obtain⟨es,ees⟩:=x_ (aK e')
      have hen:gM (e',c')= .tuple #[.agg es.toArray, .int .i64 c']:=by rw[ees];rfl
      rw[hen]at CA;have HEN:=h_ hen;have HIE:=h_ (cE es (by rw[ees];rfl));have HOE:Hid (∀u∈es,u.oneCell'=true):=h_ (by rw[ees];exact cm e');have HLE:Hid (bO.length=es.length):=h_ (by rw[ees];rfl);have hnF:∀k,w.heap.size<=k-> ¬p.F k:=λk hk hF=>by have:=H0.out.lt hF;omega
      have HNF:=h_ hnF;clear hT2 er ees hen hnF HE5;obtain⟨bt,ebt⟩:=x_ (iT x)
      rw[<-ebt]at CA CB;clear ebt;refine Fre7.dZ 8 [4,5] (λst y=>ay y w.heap.size fs 29/\ay y (w.heap.size+1) bO 42/\(st<=1->Below V.heap.size V y)/\(st=2->∃w4,Below V.heap.size V w4/\bS we w4 n p s' (.tuple #[.agg es.toArray, .int .i64 c']) (.returned (.tuple #[.agg es.toArray, .int .i64 c'])) y)) (by kernel_rfl) (by kernel_rfl) (by kernel_rfl) ⟨HF.out _ (HB4.out.trans (Below.refl _ _).drew),HEn.out _ (HB4.out.trans (Below.refl _ _).drew),λ_=>HB4.out.trans (Below.refl _ _).drew,λh=>by cases h⟩ ?_;simp only[eJ,dT];iterate 4 (first|(apply Fre7.ae (Free.wq rfl) rfl;(intro st w' hB;exact Hk.aU 29 (.tmp 3) rfl w.heap.size 0 rfl fs _ (rg_of hB.1) Tryz.underlying29 rfl HI.out);simp only[Pt])|(apply Fre7.ae (Free.wq rfl) rfl;(intro st w' hB;have k4:=hB.1.ag 4 (.int .i64 x.cJ) (by rw[EFS.out];rfl);clear hB;go_light;go_simp<;>rfl);(try simp only[Pt])))
      apply Fre7.gO (Free.wq rfl) (c:=0) rfl
      ·intro w' hB;refine Fre7.au (f:=26) (args:= #[.agg fs.toArray]) (by clear hB;go_simp<;>rfl) ?_;have hbw:=hB.2.2.1 (by decide);refine(CB.out w' hbw).mono ?_;rintro e w5 ⟨rfl,hb5⟩;exact⟨_,rfl,⟨hB.1.below hb5 hB.1.lt,hB.2.1.below hb5 hB.2.1.lt,λ_=>hbw.trans (hb5.mono hbw.size),λh=>by cases h⟩,rfl⟩
      simp only[Pt];apply Fre7.gO (Free.wq rfl) (c:=1) rfl
      ·intro w' hB;refine Fre7.au (f:=48) (args:= #[.pointer (some ⟨p.o.hb,0,none⟩), .int .i64 x.cJ, .string bt]) (by clear hB;go_simp<;>rfl) ?_;have hbw:=hB.2.2.1 (by decide);refine(CA.out w' hbw).mono ?_;intro e w5 hp5;obtain rfl:=hp5.1;have hk5:aJ p.F w' w5:=by obtain⟨_,p',_,_,_,_,h5,_⟩:=hp5;exact h5
       exact⟨_,rfl,⟨hB.1.bG (hk5.block _ hB.1.lt (HNF.out _ (aL _))),hB.2.1.bG (hk5.block _ hB.2.1.lt (HNF.out _ (by omega))),λh=>by omega,λ_=>⟨w',hbw,hp5⟩⟩,rfl⟩
      simp only[Pt];iterate 2 (apply Fre7.ae (Free.wq rfl) rfl;(intro st w' hB;clear hB;go_light;go_simp<;>rfl);(try simp only[Pt]))
      apply Fre7.ax;intro w6 hB6;obtain⟨_,hbe,_,hfin⟩:=hB6;have HBE:=h_ hbe;have HFN:=h_ (hfin rfl);clear hbe hfin;simp only[fm,fo];go_wp2_with (refine aN (.tmp 4) ?_;refine Hk.aZ rfl 42 (.tmp 4) (.tmp 49) rfl (w.heap.size+1) rfl es rfl bO 42 HBE.out HIE.out HLE.out HOE.out ?_;intro w9 h91 h92 h93;have H91:=h_ h91;have H92:=h_ h92;clear h91 h92 h93;simp only[Act.put])
      refine bodyPost_ret (v:= .tuple #[.agg es.toArray, .int .i64 c']) (Hk.aB (fn:=Tryz.f12) (p:=4) (u:=5) (ty:=42) rfl _ _ (w.heap.size+1) 42 es.toArray (0,0) _ rfl H91.out Tryz.underlying42 rfl (by rw[HIE.out];simp) rfl) rfl ?_;rw[ER.out,HT2.out];obtain⟨w4,hb4,hp4⟩:=HFN.out;dsimp only;rw[HEN.out];exact bS.tail H0.out (HBV.out.trans (hb4.mono HBV.out.size)) hp4 (by omega) (nX HLT.out hb4.size) H92.out
end Go.Proofs.YtkmbmfengcdmoaaGreatDoor
namespace Go.Proofs.YtkmbmfengcdmoaaGreatDoor
open Go.RowKit Go.ay Go.Jn Go.Dk Go.Ho Go.Opn Go.Maps Go.WideMaps Go.Apl Go.Mg Go.Rf Go.Lib
def mV(aw:dv)(k:Nat):List aV:=(List.range k).flatMap fun(j:Nat)=>bJ aw (j:Int)
def ug(s:HS):List aV:=mV s.aw s.aj.toNat
theorem jT(aw:dv)(k:Nat):mV aw (k+1)=mV aw k++bJ aw (k:Int):=by unfold mV;rw[RX,DU];simp
theorem mm(aw:dv)(house:Int):(bJ aw house).length<=aw.length:=by unfold bJ;rw[rm,fe];exact gE _ _
theorem xQ(aw:dv):∀k,(mV aw k).length<=k*aw.length
 |0=>by simp[mV]
 |k+1=>by
  rw[jT,fu,Nat.succ_mul];have h1:=xQ aw k;have h2:=mm aw (k:Int);omega
def rX(W:World)(L:List aV)(e:Ending)(w':World):Prop:=
 ∃v,e= .returned v/\w'.ownsRow W.heap.size 42 7 v L.length (L.flatMap aK)/\Below W.heap.size W w'
set_option maxHeartbeats 1000000 in
theorem jE(o:Lo)(s:HS)(W:World)(h:HR W o s)(hi:lv s):Calls Tryz.prog 14 #[.pointer (some ⟨o.hb,0,none⟩)] W (rX W (ug s)):=by
 obtain⟨R,eR⟩:=x_ (rX W (ug s))
 rw[<-eR];have h12:=hi.KI;have hme0:=hi.KH;have hme:=hi.me;obtain⟨N,eN⟩:∃N:Nat,s.aj=(N:Int):=⟨s.aj.toNat,by omega⟩
 have hL:ug s=mV s.aw N:=by unfold ug;rw[eN];rfl
 have FIN:Hid (∀w' v,w'.ownsRow W.heap.size 42 7 v (mV s.aw N).length ((mV s.aw N).flatMap aK)->Below W.heap.size W w'->R (.returned v) w'):=h_ λw' v h1 h2=>by rw[eR,hL];exact⟨v,rfl,h1,h2⟩
 have HN:Hid (N<=12):=h_ (by omega);have HF:Hid (s.aw.length<=1000000):=h_ hi.e.jX;have c0:=h.bg.ag 0 _ rfl;rw[eN]at c0;have C1:=h_ (fun(j:Nat) w' (hb:Below W.heap.size W w')=>kZ o s (j:Int) w' (h.below hb) hi.e);clear eR h hi h12 hme0 hme eN hL;go_enter Tryz.func14,Tryz.ntmps14;go_wp2_with fail
 go_loopw [3,11] (λu v wr=> ∃k:Nat,v= .int .i64 (k:Int)/\k<=N/\wr.ownsRow W.heap.size 42 7 u (mV s.aw k).length ((mV s.aw k).flatMap aK)/\Below W.heap.size W wr) (λ_ v _=>(N:Int).toNat- (RowKit.intOf v).toNat)
 case atStart=>exact⟨0,rfl,gu _,by exact World.ownsRow_nil _ _ _ _,Below.refl _ _⟩
 case round=>
  obtain⟨k,rfl,hk,hown,hb⟩:=hrel;have HB:=h_ hb;have hn12:=HN.out;rcases pC hk with hkl|hkl
  ·have hki:(k:Int)<(N:Int):=by omega
   have C2:=h_ (C1.out k wr hb);have HO:=h_ hown;have c0':=aO c0 hb;clear hown hb;go_wp2_with fail;refine C2.out.mono ?_;rintro e w2 ⟨g,c,rfl,hc,hcm,hown2,hsl2,hb2⟩;obtain⟨iE,hi,hz0,hz1,hz2⟩:=wF;have hra:=bC HO.out (λj e=>hb2.block j (World.ownsRow.lt HO.out j e).2);have hlenk:=xQ s.aw k;have hsor:=mm s.aw (k:Int);have hszw:=HB.out.size;have hsz2:=hb2.size;have hmul:k*s.aw.length<=12*1000000:=Nat.mul_le_mul (by omega) HF.out;have HAP:Hid (∀(Q:Exit->Act->World->Prop) (ops:Array Oper) (rest:List Oper) (o:Oper) (a:Act),o.guard=none->o.op= .call {callee:= .builtin .append,args:= #[.tmp 14, .tmp 17],argTypes:= #[56,56]}->a.eval (.tmp 14)=u3->a.eval (.tmp 17)= .slice (some ⟨g,0,none⟩) (bJ s.aw (k:Int)).length c->(∀u w9,Hid (w9.ownsRow W.heap.size 42 7 u (mV s.aw (k+1)).length ((mV s.aw (k+1)).flatMap aK)/\Below W.heap.size W w9)->wpList Tryz.prog ops Q rest (a.put o.dst u) w9)->wpList Tryz.prog ops Q (o::rest) a w2):=h_ (by
    intro Q ops rest o a hgd ho hx hy hk';have hf:=HF.out;refine dF hgd (.tmp 14) (.tmp 17) 56 ho W.heap.size 42 iE _ 72 Tryz.underlying56 hi hz0 hz1 hz2 rfl (by decide) bT cm u3 (mV s.aw k).length _ hx hra (some ⟨g,0,none⟩) c (bJ s.aw (k:Int)) hy hsl2 (by unfold maxLen;omega) (by omega) (by omega) ?_;intro u w9 h9 hg9 _;refine hk' u w9 (h_ ⟨by rw[jT,fu,DU];exact h9,(HB.out.trans (hb2.mono hszw)).trans ⟨hg9.os,hg9.tape,hg9.output,hg9.size,λj hj=>hg9.block j (by omega) (λe=>by have:=(World.ownsRow.lt hra j e.symm).1;omega)⟩⟩))
   clear hc hcm hown2 hsl2 hb2 hi hz0 hz1 hz2 hra hlenk hsor hszw hsz2 hmul;go_wp2_with (refine v8 (.tmp 14) (.tmp 17) ?_;refine HAP.out _ _ _ _ _ rfl rfl rfl rfl ?_;intro u w9 H9;simp only[Pt])
   go_roundw
   case rel=>exact⟨k+1,rfl,hkl,H9.out.1,H9.out.2⟩
   case measure=>simp[RowKit.intOf];omega
  ·subst hkl;have G:=h_ (FIN.out wr _ hown hb);have hki: ¬((k:Nat):Int)<(k:Int):=by omega
   clear hown hb;go_wp2_with fail;(try go_ret);exact G.out
def kM(l:List aV):Int:=l.foldl (λm e=>if e.seq=m then m+1 else m) 0
def vj(aw:dv)(j:Nat):Int:=kM (bJ aw (j:Int))
def vh(s:HS):List Int:=(List.range s.aj.toNat).map (vj s.aw)
def iK(aw:dv)(N k:Nat):List Int:=(List.range N).map λj=>if j<k then vj aw j else 0
theorem ve(l:List aV)(e:aV):kM (l++ [e])=if e.seq=kM l then kM l+1 else kM l:=by unfold kM;rw[PA];rfl
theorem Mb(l:List aV):0<=kM l/\kM l<=(l.length:Int):=by refine Go.Cs.J5 (p:=λl=>0<=kM l/\kM l<=(l.length:Int)) ⟨Int.le_refl _,Int.le_refl _⟩ (λl e ih=> ?_) l;rw[ve,fu,DT];split<;>omega
theorem tj(aw:dv)(N k:Nat):(iK aw N k).length=N:=by simp[iK]
theorem Mo{aw:dv}{N k:Nat}(h:k<N):(iK aw N k)[k]? =some 0:=by simp[iK,h]
theorem Jz{aw:dv}{N k:Nat}:(iK aw N k).set k (vj aw k)=iK aw N (k+1):=by
 apply rC;intro j;rw[Sd];simp only[iK,rm,List.length_range,mx];by_cases hj:j<N
 ·rw[List.getElem?_range hj];by_cases e:k=j
  ·subst e;simp[hj]
  ·simp only[if_neg e,GK];by_cases h:j<k
   ·rw[if_pos h,if_pos (by omega)]
   ·rw[if_neg h,if_neg (by omega)]
 ·rw[pz (by simpa using hj)];by_cases e:k=j
  ·subst e;simp[hj]
  ·simp[e]
theorem y5(s:HS)(N:Nat)(h:s.aj.toNat=N):iK s.aw N N=vh s:=by unfold iK vh;rw[h];exact List.map_congr_left λj hj=>by rw[if_pos (R2.1 hj)]
theorem Ns:∃i,Tryz.prog.info? 3=some i/\i.zero=some (.int .i64 0)/\i.size=1/\i.bytes=8:=by
 have h:(Tryz.prog.info? 3).map (λi=>(i.zero,i.size,i.bytes))=some (some (.int .i64 0),1,8):=by kernel_rfl
 cases hi:Tryz.prog.info? 3 with
 |none=>rw[hi]at h;cases h
 |some i=>rw[hi]at h;simp only[GK,NS,NO]at h;exact⟨i,rfl,h.1,h.2.1,h.2.2⟩
theorem A8(n:Nat):(madeCells (Value.int .i64 0).cells (n*1))=((iK [] n 0).map (Value.int .i64)).toArray:=by
 apply M5;apply rC;intro i;simp[madeCells,iK,Value.cells];by_cases hi:i<n
 ·simp[hi,Nat.mod_one]
 ·simp[hi]
theorem Fw(aw:dv)(n:Nat):iK aw n 0=iK [] n 0:=by unfold iK;simp
theorem LZ(n:Nat)(hn:n<=4000)(W:World):(Instr.makeSlice 22 (.int .i64 (n:Int)) (.int .i64 (n:Int))).run Tryz.prog W= .ok (.slice (some ⟨W.heap.size,0,none⟩) n n) (W.alloc (.cells ((iK [] n 0).map (Value.int .i64)).toArray 3)):=by obtain⟨i,hi,hz,hs,hy⟩:=Ns;have h:=run_make (P:=Tryz.prog) W 22 3 i _ Tryz.underlying22 hi hz .i64 .i64 (n:Int) (n:Int) (by omega) (by omega) (by rw[hy];omega) (by omega);rw[h,hs,tZ,A8]
structure Cd (W:World) (l:List Int) (w:World):Prop where
 bg:ay w W.heap.size (l.map (Value.int .i64)) 3
 below:Below W.heap.size W w
theorem Cd.grow{W w w':World}{l:List Int}(h:Cd W l w)(hb:Below w.heap.size w w'):Cd W l w':=⟨h.bg.below hb h.bg.lt,h.below.trans (hb.mono h.below.size)⟩
theorem Cd.set{W w:World}{l:List Int}(h:Cd W l w)(k:Nat)(x:Int):Cd W (l.set k x) (w.setCell ⟨W.heap.size,k,none⟩ (.int .i64 x)):=
 ⟨by rw[Py];exact h.bg.set k _,h.below.trans (di (a:=⟨W.heap.size,k,none⟩) (aL _) _)⟩
def GY(W:World)(L:List Int)(e:Ending)(w':World):Prop:=
 e= .returned (.slice (some ⟨W.heap.size,0,none⟩) L.length L.length)/\Cd W L w'
set_option maxHeartbeats 1000000 in
theorem yN(o:Lo)(s:HS)(W:World)(h:HR W o s)(hi:lv s):Calls Tryz.prog 42 #[.pointer (some ⟨o.hb,0,none⟩)] W (GY W (vh s)):=by
 obtain⟨R,eR⟩:=x_ (GY W (vh s))
 rw[<-eR];have h12:=hi.KI;have hme0:=hi.KH;have hme:=hi.me;obtain⟨N,eN⟩:∃N:Nat,s.aj=(N:Int):=⟨s.aj.toNat,by omega⟩
 have hN:s.aj.toNat=N:=by omega
 have hlen:(vh s).length=N:=by rw[<-y5 s N hN,tj]
 have FIN:Hid (∀w',Cd W (iK s.aw N N) w'->R (.returned (.slice (some ⟨W.heap.size,0,none⟩) N N)) w'):=h_ λw' h1=>by rw[eR];rw[y5 s N hN]at h1;exact⟨by rw[hlen],h1⟩
 have HN:Hid (N<=12):=h_ (by omega);have HF:Hid (s.aw.length<=1000000):=h_ hi.e.jX;have c0:=h.bg.ag 0 _ rfl;rw[eN]at c0;have C1:=h_ (fun(j:Nat) w' (hb:Below W.heap.size W w')=>kZ o s (j:Int) w' (h.below hb) hi.e);have hmk:=LZ N (by omega) W;obtain⟨V,eV⟩:=x_ (W.alloc (.cells ((iK [] N 0).map (Value.int .i64)).toArray 3))
 rw[<-eV]at hmk;have HV:Hid (Cd W (iK s.aw N 0) V):=h_ (by rw[Fw,eV];exact⟨ay.new W _ _,(Below.refl _ _).alloc (aL _) _⟩);clear eR h hi h12 hme0 hme eN hN hlen eV;go_enter Tryz.func42,Tryz.ntmps42;go_wp2_with fail
 go_loopw [16] (λv wr=> ∃k:Nat,v= .int .i64 (k:Int)/\k<=N/\Cd W (iK s.aw N k) wr) (λv _=>(N:Int).toNat- (RowKit.intOf v).toNat)
 case atStart=>exact⟨0,rfl,gu _,HV.out⟩
 case round=>
  obtain⟨k,rfl,hk,hmi⟩:=hrel;obtain⟨W1,eW1⟩:=x_ wr
  subst eW1;have HM:=h_ hmi;have hn12:=HN.out;rcases pC hk with hkl|hkl
  ·have hki:(k:Int)<(N:Int):=by omega
   have C2:=h_ (C1.out k W1 hmi.below);clear hmi;go_wp2_with fail;refine C2.out.mono ?_;rintro e w2 ⟨g,c,rfl,hc,hcm,hown2,hsl2,hb2⟩;have hsor:=mm s.aw (k:Int);obtain⟨L,eL⟩:=x_ (bJ s.aw (k:Int))
   rw[<-eL]at hown2 hsl2 hc hsor⊢;have hlf:L.length<=1000000:=by have:=HF.out;omega
   have HM2:=h_ (HM.out.grow hb2);have HO2:=h_ hown2;have HSZ:Hid (W.heap.size<W1.heap.size):=h_ HM.out.bg.lt;have EL:=h_ eL;clear hc hcm hown2 hsl2 hb2 eL hsor;go_wp2_with fail
   go_loopw [23] (λv wi=> ∃i:Nat,v= .int .i64 (i:Int)/\i<=L.length/\Cd W ((iK s.aw N k).set k (kM (L.take i))) wi/\wi.ownsRow W1.heap.size 42 7 (.slice (some ⟨g,0,none⟩) L.length c) L.length (L.flatMap aK)) (λv _=>(L.length:Int).toNat- (RowKit.intOf v).toNat)
   case atStart=>
    refine⟨0,rfl,gu _, ?_,HO2.out⟩;have e:(iK s.aw N k).set k (kM (L.take 0))=iK s.aw N k:=by
     apply rC;intro j;rw[Sd];split
     ·rename_i e;subst e;rw[Mo hkl];simp[tj,hkl];rfl
     ·rfl
    rw[e];exact HM2.out
   case round=>
    obtain⟨i,rfl,hi2,hmi2,hown⟩:=hrel;rcases pC hi2 with hil|hil
    ·have hii:(i:Int)<(L.length:Int):=by omega
     obtain⟨y,ey⟩:∃y,L[i]? =some y:=⟨_,eH hil⟩
     obtain⟨A',c',eA,_,hsl⟩:=gV bT hown;injection eA with eA _ ec;subst ec;rw[<-eA]at hsl;have HMY:Hid (wr.rangeAt g (i*7) (aK y)):=h_ (by have h:=dq hsl ey;rw[nW]at h;exact h);obtain⟨w5,e5⟩:=x_ (wr.alloc (.cells (aK y).toArray 42))
     have hb5:Below wr.heap.size wr w5:=by rw[e5];exact(Below.refl _ _).alloc (aL _) _
     have hbky:ay w5 wr.heap.size (aK y) 42:=by rw[e5];exact ay.new wr _ _
     obtain⟨m,em⟩:=x_ (kM (L.take i))
     rw[<-em]at hmi2;have hmb:=Mb (L.take i);rw[<-em,jQ]at hmb;obtain⟨hm0,hm1⟩:=hmb;have hm2:m<=1000000:=by omega
     have h5:=hmi2.grow hb5;have ho5:=bC hown (λk e=>hb5.block k (World.ownsRow.lt hown k e).2);have g1:=hbky.ag 1 _ rfl;have g2:=h5.bg.ag k (.int .i64 m) (by rw[mx,Sk (by rw[tj];exact hkl)];rfl);have f2:=h5.bg.frozen k;have HIY:=h_ (cE (aK y) rfl);have HOY:=h_ (cm y);have HE5:=h_ e5;have H5:=h_ h5;have HO5:=h_ ho5;have HIL:=h_ hil;have EY:=h_ ey;have EM:=h_ em;clear hi2 hmi2 hown eA hsl e5 hb5 hbky em hm1 h5 ho5 hil ey;go_wp2_with (first
      |(refine aH (.tmp 25) ?_;refine wpList_load_mid rfl 42 (.tmp 25) rfl g (i*7) rfl (aK y) _ HMY.out Tryz.underlying42 rfl HIY.out ?_)
      |(refine aN (.tmp 6) ?_;refine Hk.aD rfl 42 (.tmp 6) (.tmp 26) rfl wr.heap.size (aK y).toArray rfl rfl _ 42 rfl (by rw[HIY.out];simp) rfl (all_oneCell_toArray HOY.out) ?_;rw[<-HE5.out];simp only[Pt]))
     have HQ:Hid (∀w',Below w5.heap.size w5 w'->w'.cell? ⟨wr.heap.size,1,none⟩=some (.int .i64 y.seq)/\w'.cell? ⟨W.heap.size,k,none⟩=some (.int .i64 m)):=h_ λw' h=>⟨aO g1 h,aO g2 h⟩
     refine Free.ai 7 [] (λw'=>Below w5.heap.size w5 w') (by kernel_rfl) (by kernel_rfl) (Free.aW (λj mk r hf=>by cases hf)) (Below.refl _ _).drew (λ_ _ h g=>h.trans (Below.mono g h.size)) ?_;simp only[eJ,dT];clear g1 g2 f2;iterate 7 (apply Free.ae rfl rfl;(intro w' hB hA;cases HQ.out w' hB;clear hA hB;go_light;go_simp<;>rfl);(try simp only[Pt]))
     apply Free.ax;intro wz hz _ _;simp only[fm,fo];have HMZ:=h_ (H5.out.grow hz);have HOZ:=h_ (bC HO5.out (λk e=>hz.block k (World.ownsRow.lt HO5.out k e).2));have g2:=(HQ.out wz hz).2;have f2:=HMZ.out.bg.frozen k;have HTK:Hid (kM (L.take (i+1))=if y.seq=m then m+1 else m):=h_ (by rw[zX,EY.out,EM.out];exact ve _ _);clear hz;by_cases hs:y.seq=m
     ·have t1:(y.seq==m)=true:=by simpa using hs
      have G:Hid (Cd W ((iK s.aw N k).set k (kM (L.take (i+1)))) (wz.setCell ⟨W.heap.size,k,none⟩ (.int .i64 (m+1)))):=h_ (by
       have h:=HMZ.out.set k (m+1);rw[List.set_set]at h;rw[HTK.out,if_pos hs];exact h)
      have GO:Hid ((wz.setCell ⟨W.heap.size,k,none⟩ (.int .i64 (m+1))).ownsRow W1.heap.size 42 7 (.slice (some ⟨g,0,none⟩) L.length c) L.length (L.flatMap aK)):=h_ (bC HOZ.out (λq e=>Below.heap_setCell _ _ _ _ (by have:=(World.ownsRow.lt HOZ.out q e).1;have:=HSZ.out;show q≠W.heap.size;omega)));clear hs;go_wp2_with fail
      go_roundw
      case rel=>exact⟨i+1,rfl,HIL.out,G.out,GO.out⟩
      case measure=>have:=HIL.out;simp[RowKit.intOf];omega
     ·have t1:(y.seq==m)=false:=by simpa using hs
      have G:Hid (Cd W ((iK s.aw N k).set k (kM (L.take (i+1)))) wz):=h_ (by
       rw[HTK.out,if_neg hs];exact HMZ.out)
      clear hs;go_wp2_with fail
      go_roundw
      case rel=>exact⟨i+1,rfl,HIL.out,G.out,HOZ.out⟩
      case measure=>have:=HIL.out;simp[RowKit.intOf];omega
    ·subst hil;have hii: ¬((L.length:Nat):Int)<(L.length:Int):=by omega
     have G:Hid (Cd W (iK s.aw N (k+1)) wr):=h_ (by
      rw[KK]at hmi2;have e:kM L=vj s.aw k:=by unfold vj;rw[EL.out]
      rw[e,Jz]at hmi2;exact hmi2)
     clear hmi2 hown hi2;go_wp2_with fail
     go_roundw
     case rel=>exact⟨k+1,rfl,hkl,G.out⟩
     case measure=>simp[RowKit.intOf];omega
  ·subst hkl;have G:=h_ (FIN.out W1 hmi);have hki: ¬((k:Nat):Int)<(k:Int):=by omega
   clear hmi;go_wp2_with fail;(try go_ret);exact G.out
end Go.Proofs.YtkmbmfengcdmoaaGreatDoor
namespace Go.Proofs
open Go.Shelf
def Tryz.AW:Go.Shelf.Ren:=⟨fun|99=>111|206=>174|n=>n,fun|9=>9|4=>4|3=>3|n=>n,fun|n=>n⟩
theorem Tryz.OS:Go.Proofs.Lays.n99 Tryz.prog Tryz.AW:= {
 mixed:=by kernel_rfl
 f99:=Tryz.func111.trans (congrArg some (by kernel_rfl))
 f206:=Tryz.func174.trans (congrArg some (by kernel_rfl))
 t3:=Tryz.underlying3
 a3:=Tryz.isAgg3
 z3:=Tryz.sizeOf3
 v3:=Tryz.zeroValue3
 t4:=Tryz.underlying4
 a4:=Tryz.isAgg4
 z4:=Tryz.sizeOf4
 v4:=Tryz.zeroValue4
 t9:=Tryz.underlying9
 a9:=Tryz.isAgg9
 z9:=Tryz.sizeOf9
 v9:=Tryz.zeroValue9}
open Go.RowKit Go.Lib in
theorem Tryz.strings_HasPrefix(s p:ByteArray)(w:World):
  Calls Tryz.prog 111 #[.string s, .string p] w λe w'=>e= .returned (.bool (Lib.hasPrefix s.data.toList p.data.toList))/\w'=w:=Any.strings_HasPrefix Tryz.OS s p w
def Tryz.yH:Go.Shelf.Ren:=⟨fun|101=>112|208=>175|206=>174|n=>n,fun|9=>9|4=>4|3=>3|n=>n,fun|n=>n⟩
theorem Tryz.LO:Go.Proofs.Lays.n101 Tryz.prog Tryz.yH:= {
 mixed:=by kernel_rfl
 f101:=Tryz.func112.trans (congrArg some (by kernel_rfl))
 f206:=Tryz.func174.trans (congrArg some (by kernel_rfl))
 f208:=Tryz.func175.trans (congrArg some (by kernel_rfl))
 t3:=Tryz.underlying3
 a3:=Tryz.isAgg3
 z3:=Tryz.sizeOf3
 v3:=Tryz.zeroValue3
 t4:=Tryz.underlying4
 a4:=Tryz.isAgg4
 z4:=Tryz.sizeOf4
 v4:=Tryz.zeroValue4
 t9:=Tryz.underlying9
 a9:=Tryz.isAgg9
 z9:=Tryz.sizeOf9
 v9:=Tryz.zeroValue9}
open Go.RowKit Go.Lib in
theorem Tryz.strings_TrimPrefix(s p:ByteArray)(w:World):
  Calls Tryz.prog 112 #[.string s, .string p] w λe w'=>e= .returned (.string ⟨(Lib.trimPrefix s.data.toList p.data.toList).toArray⟩)/\w'=w:=Any.strings_TrimPrefix Tryz.LO s p w
end Go.Proofs
