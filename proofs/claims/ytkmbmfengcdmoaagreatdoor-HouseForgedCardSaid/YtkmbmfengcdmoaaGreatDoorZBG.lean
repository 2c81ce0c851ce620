/- Package house: add. Condition: the variables of digest and strconv hold their numbers. -/
import Derived.Test.YtkmbmfengcdmoaaGreatDoorZBF
import Derived.Test.YtkmbmfengcdmoaaGreatDoorZBE
import Derived.Test.YtkmbmfengcdmoaaGreatDoorZAH
set_option maxRecDepth 100000
set_option linter.all false
namespace Go.Proofs.YtkmbmfengcdmoaaGreatDoor
open Go.RowKit Go.ay Go.Jn Go.Dk Go.Ho Go.Opn Go.Maps Go.WideMaps Go.Apl Go.Mg Go.Rf Go.Lib
noncomputable def HS.take (n:Nat) (s:HS) (e:aV):HS×Int:=
 if s.run=false then(s,22)else if dj s.aj e=false then(s,1)else if 2000<(aP e).size then(s,3)
 else if(Mk.get s.aw (aP e)).isSome=true then(s,0)else if gB s.aj s.pubs e (aP e)=false then(s,17)else s.store n e (aP e)
set_option maxHeartbeats 2000000 in
theorem ph{we w:World}{n:Nat}{p:Pl}{s:HS}(e0:aV)(h:HC we w n p s)(hi:lv s)(ho:e0.Ok)(hp:e0.prev.size<=400000000)(hb:e0.body.size<=400000000)(hT:cB w)(hpend:s.js.d.aF.length<=900000)(hrec:s.js.bW.length<=1000000):
  Calls Tryz.prog 13 #[.pointer (some ⟨p.o.hb,0,none⟩), .agg (aK e0).toArray] w (bS we w n p (s.take n e0).1 (.int .i64 (s.take n e0).2)):=by
 obtain⟨R,eR⟩:=x_ (bS we w n p (s.take n e0).1 (.int .i64 (s.take n e0).2))
 rw[<-eR];obtain⟨cs,ecs⟩:=x_ (aK e0)
 have hcl:cs.length=7:=by rw[ecs];rfl
 obtain⟨V,eV⟩:=x_ (w.alloc (.cells cs.toArray 42))
 have hbk:ay V w.heap.size cs 42:=by rw[eV];exact ay.new w cs 42
 have hbV:Below w.heap.size w V:=by rw[eV];exact(Below.refl _ _).alloc (aL _) _
 have hV:=h.grow hbV;have hTV:=hT.below hbV (aL _);obtain⟨tx0,etx⟩:=x_ (aP e0)
 have htxs:tx0.size<=1000000000:=by have:=j9 ho;rw[etx];omega
 have hE:Hid (s.take n e0=if s.run=false then(s,22)else if dj s.aj e0=false then(s,1)else if 2000<tx0.size then(s,3)else if(Mk.get s.aw tx0).isSome=true then(s,0)else if gB s.aj s.pubs e0 tx0=false then(s,17)else s.store n e0 tx0):=h_ (by rw[etx];rfl);have FS:Hid (∀w' c,s.take n e0=(s,c)->Below V.heap.size V w'->R (.returned (.int .i64 c)) w'):=h_ λw' c he hb'=>by
  rw[eR,he];exact bS.same h (hbV.trans (hb'.mono hbV.size)) _
 have FE:Hid (∀w' e w1,s.take n e0=s.store n e0 tx0->Below V.heap.size V w1->bS we w1 n p (s.store n e0 tx0).1 (.int .i64 (s.store n e0 tx0).2) e w'->R e w'):=h_ λw' e w1 he hb1 hp=>by
  rw[eR,he];exact bS.after (hbV.trans (hb1.mono hbV.size)) hp
 have EV:Hid (w.alloc (.cells cs.toArray 42)=V):=h_ eV.symm;have HV:=h_ hV;have HBK:=h_ hbk;have HI:=h_ (cE cs hcl);have HM:Hid (∀w',Below V.heap.size V w'->w'.rangeAt w.heap.size 0 cs):=h_ λw' h=>rg_of (hbk.below h hbk.lt)
 have HTX:Hid (qw tx0):=h_ (by unfold qw maxLen;omega);have HT:Hid (∀w',Below V.heap.size V w'->cB w'):=h_ λw' h=>hTV.below h (aL _)
 have H7:Hid (∀w',Below V.heap.size V w'->w'.cell? ⟨p.o.hb,7,none⟩=some (.bool s.run)/\w'.cell? ⟨p.o.hb,8,none⟩=some (.map (some p.o.mb))):=h_ λw' h=>⟨(hV.grow h).hr.bg.ag 7 _ rfl,(hV.grow h).hr.bg.ag 8 _ rfl⟩
 have CP:=h_ (λw' (h:Below V.heap.size V w')=>tu p.o s e0 w' (hV.grow h).hr);have CR:=h_ (λw' (h:Below V.heap.size V w')=>nI e0 w' ho (by omega) (by omega) (hTV.below h (aL _)));have CG:=h_ (λw' (h:Below V.heap.size V w')=>qN p.o s e0 tx0 w' (hV.grow h).hr hi.pn ho (by omega) (by omega) (hTV.below h (aL _)));have CS:=h_ (λw' (h:Below V.heap.size V w')=>sO e0 tx0 (hV.grow h) htxs hpend hrec);have HL:Hid (∀w',Below V.heap.size V w'->(Instr.lookup 102 (.map (some p.o.mb)) (.string tx0) true).run Tryz.prog w'= .ok (.tuple #[fv (fP s.aw tx0), .bool (Mk.get s.aw tx0).isSome]) w'):=h_ λw' h=>by
  have hrun:=(hV.grow h).hr.mp.look kH (t:=102) Tryz.underlying102 (zU w') HTX.out true;simp only[uf]at hrun;have he:((Mk.get s.aw tx0).map fv).getD (fv aM)=fv (fP s.aw tx0):=by unfold fP;cases Mk.get s.aw tx0<;>rfl
  rw[he]at hrun;exact hrun
 rw[<-etx, <-ecs]at CR;rw[<-ecs]at CP CG CS⊢;obtain⟨q7,_⟩:=H7.out V (Below.refl _ _);clear eR hcl eV hbk hbV hV hTV h hi ho hp hb hT hpend hrec htxs etx ecs;cases hrun:s.run with
 |false=>
  rw[hrun]at q7;have G:=h_ (FS.out V 22 (by rw[hE.out,if_pos hrun]) (Below.refl _ _));go_enter Tryz.func13,Tryz.ntmps13;go_wp2_with (simp only[EV.out])
  (try go_ret);exact G.out
 |true=>
  rw[hrun]at q7;have HE2:=h_ (hE.out.trans (if_neg (by rw[hrun];decide)));clear hE;have HM0:=h_ (HM.out V (Below.refl _ _));go_enter Tryz.func13,Tryz.ntmps13;go_wp2_with (first
   |simp only[EV.out]
   |(refine aH (.tmp 3) ?_;refine wpList_load_mid rfl 42 (.tmp 3) rfl w.heap.size 0 rfl cs _ HM0.out Tryz.underlying42 rfl HI.out ?_))
  refine(CP.out V (Below.refl _ _)).mono ?_;rintro e w1 ⟨rfl,hb1⟩;cases hpl:dj s.aj e0 with
  |false=>
   have G:=h_ (FS.out w1 1 (by rw[HE2.out,if_pos hpl]) hb1);clear hb1;go_wp2_with fail;(try go_ret);exact G.out
  |true=>
   have HE3:=h_ (HE2.out.trans (if_neg (by rw[hpl];decide)));have HM1:=h_ (HM.out w1 hb1);have HB1:=h_ hb1;clear hb1 HE2 HM0 q7 hpl;go_wp2_with (refine aH (.tmp 3) ?_;refine wpList_load_mid rfl 42 (.tmp 3) rfl w.heap.size 0 rfl cs _ HM1.out Tryz.underlying42 rfl HI.out ?_)
   refine(CR.out w1 HB1.out).mono ?_;rintro e w2 ⟨rfl,hb2⟩;have HB2:=h_ (HB1.out.trans (hb2.mono HB1.out.size));clear hb2;by_cases h2:2000<tx0.size
   ·have t1:decide ((2000:Int)<(tx0.size:Int))=true:=dt (by omega);have G:=h_ (FS.out w2 3 (by rw[HE3.out,if_pos h2]) HB2.out);go_wp2_with fail;(try go_ret);exact G.out
   ·have t1:decide ((2000:Int)<(tx0.size:Int))=false:=dy (by omega);have HE4:=h_ (HE3.out.trans (if_neg h2));obtain⟨_,q8⟩:=H7.out w2 HB2.out;have hlk:=HL.out w2 HB2.out;obtain⟨w3,e3⟩:=x_ (w2.alloc (.cells (aK (fP s.aw tx0)).toArray 42))
    have HB3:Hid (Below V.heap.size V w3):=h_ (by rw[e3];exact HB2.out.alloc HB2.out.size _);have HI3:=h_ (cE (aK (fP s.aw tx0)) rfl);have HO3:=h_ (cm (fP s.aw tx0));obtain⟨ds,eds⟩:=x_ (aK (fP s.aw tx0))
    have hdl:ds.length=7:=by rw[eds];rfl
    unfold fv at hlk;rw[<-eds]at hlk HI3 HO3 e3;have HE5:=h_ e3;have HM3:=h_ (HM.out w3 HB3.out);have HDL:=h_ hdl;clear e3 eds h2 HE3 hdl;cases hg:(Mk.get s.aw tx0).isSome with
    |true=>
     rw[hg]at hlk;have G:=h_ (FS.out w3 0 (by rw[HE4.out,if_pos hg]) HB3.out);clear hg;go_wp2_with (refine aN (.tmp 6) ?_;refine Hk.aD rfl 42 (.tmp 6) (.tmp 31) rfl w2.heap.size ds.toArray rfl rfl _ 42 rfl (by rw[HI3.out];simp) (by simp[HDL.out]) (all_oneCell_toArray HO3.out) ?_;rw[<-HE5.out];simp only[Pt])
     (try go_ret);exact G.out
    |false=>
     rw[hg]at hlk;have HE6:=h_ (HE4.out.trans (if_neg (by rw[hg];decide)));clear hg HE4;go_wp2_with (first
      |(refine aN (.tmp 6) ?_;refine Hk.aD rfl 42 (.tmp 6) (.tmp 31) rfl w2.heap.size ds.toArray rfl rfl _ 42 rfl (by rw[HI3.out];simp) (by simp[HDL.out]) (all_oneCell_toArray HO3.out) ?_;rw[<-HE5.out];simp only[Pt])
      |(refine aH (.tmp 3) ?_;refine wpList_load_mid rfl 42 (.tmp 3) rfl w.heap.size 0 rfl cs _ HM3.out Tryz.underlying42 rfl HI.out ?_))
     refine(CG.out w3 HB3.out).mono ?_;rintro e w4 ⟨rfl,hb4⟩;have HB4:=h_ (HB3.out.trans (hb4.mono HB3.out.size));clear hb4 hlk q8;cases hgn:gB s.aj s.pubs e0 tx0 with
     |false=>
      have G:=h_ (FS.out w4 17 (by rw[HE6.out,if_pos hgn]) HB4.out);go_wp2_with fail;(try go_ret);exact G.out
     |true=>
      have HE7:=h_ (HE6.out.trans (if_neg (by rw[hgn];decide)));have HM4:=h_ (HM.out w4 HB4.out);clear hgn HE6;go_wp2_with (refine aH (.tmp 3) ?_;refine wpList_load_mid rfl 42 (.tmp 3) rfl w.heap.size 0 rfl cs _ HM4.out Tryz.underlying42 rfl HI.out ?_)
      refine(CS.out w4 HB4.out).mono ?_;intro e w5 hp5;obtain rfl:=hp5.1;have G:=h_ (FE.out w5 _ w4 HE7.out HB4.out hp5);clear hp5;go_wp2_with fail;(try go_ret);exact G.out
end Go.Proofs.YtkmbmfengcdmoaaGreatDoor
namespace Go.Ho
open Go
def pr(g c:Nat):Nat:=2 ^ g*(2*c+1)
theorem JG(g c:Nat):pr g c≠0:=Nat.mul_ne_zero (by have:=Nat.two_pow_pos g;omega) (by omega)
theorem JF:∀ {a b c d:Nat},pr a b=pr c d->a=c/\b=d
 |0,b,0,d,h=>by unfold pr at h;omega
 |0,b,c+1,d,h=>by
  have e:pr (c+1) d=2*pr c d:=by unfold pr;rw[GL];rw[B8 (2 ^ c) 2,P6]
  rw[e]at h;unfold pr at h;omega
 |a+1,b,0,d,h=>by
  have e:pr (a+1) b=2*pr a b:=by unfold pr;rw[GL];rw[B8 (2 ^ a) 2,P6]
  rw[e]at h
  have:pr 0 d=2*d+1:=by unfold pr;omega
  omega
 |a+1,b,c+1,d,h=>by
  have e1:pr (a+1) b=2*pr a b:=by unfold pr;rw[GL];rw[B8 (2 ^ a) 2,P6]
  have e2:pr (c+1) d=2*pr c d:=by unfold pr;rw[GL];rw[B8 (2 ^ c) 2,P6]
  have:=JF (a:=a) (b:=b) (c:=c) (d:=d) (by omega);omega
open Classical in
noncomputable def MW (x:Nat):Nat×Nat:=if h:∃q:Nat×Nat,x=pr q.1 q.2 then Classical.choose h else(0,0)
theorem DQ(g c:Nat):MW (pr g c)=(g,c):=by
 have h:∃q:Nat×Nat,pr g c=pr q.1 q.2:=⟨(g,c),rfl⟩
 unfold MW;rw[dif_pos h]
 have:=JF (P9 h);exact Prod.ext this.1.symm this.2.symm
noncomputable def aS (x:Nat):Option Addr:=if x=0 then none else some ⟨(MW x).1,0,none⟩
noncomputable def cS (x:Nat):Nat:=if x=0 then 0 else(MW x).2
theorem Hb{A:Option Addr}{c:Nat}(h:(A=none/\c=0)\/∃g,A=some ⟨g,0,none⟩):∃x,aS x=A/\cS x=c:=by
 rcases h with⟨rfl,rfl⟩|⟨g,rfl⟩
 ·exact⟨0,rfl,rfl⟩
 ·exact⟨pr g c,by unfold aS;rw[if_neg (JG g c),DQ],by unfold cS;rw[if_neg (JG g c),DQ]⟩
end Go.Ho
namespace Go.Proofs.YtkmbmfengcdmoaaGreatDoor
open Go.RowKit Go.ay Go.Jn Go.Dk Go.Ho Go.Opn Go.Maps Go.WideMaps Go.Apl Go.Mg Go.Rf Go.Lib Go.Sg
attribute [local go_sem] Oper.semAt_some
noncomputable def HS.next (s:HS) (day:Int) (body:ByteArray):aV:=dn (bE s s.me) s.me s.secret day body
noncomputable def HS.add (n:Nat) (s:HS) (day:Int) (body:ByteArray):HS×aV×Int:=
 if eI (bE s s.me) s.me s.secret day body≠0 then(s,aM,eI (bE s s.me) s.me s.secret day body)
 else if 2000<(aP (s.next day body)).size then(s,aM,3)
 else if(s.store n (s.next day body) (aP (s.next day body))).2≠0 then((s.store n (s.next day body) (aP (s.next day body))).1,aM,(s.store n (s.next day body) (aP (s.next day body))).2)
 else((s.store n (s.next day body) (aP (s.next day body))).1,s.next day body,0)
def Ss(E:Int)(x:Nat):Option Addr:=if E=0 then some ⟨x,0,none⟩else none
def QZ(E:Int)(n:Nat):Nat:=if E=0 then n+1 else 0
abbrev Rb (E:Int) (n x:Nat):Value:= .tuple #[.slice (Ss E x) (QZ E n) (QZ E n), .int .i64 E]
def Tf(f x:Nat):Value:= .func (.func f) #[] #[.pointer (some ⟨x,0,none⟩), .pointer (some ⟨x+1,0,none⟩)]
noncomputable def oK (n x:Nat):Value:= .slice (aS x) n (cS x)
theorem Rc{K:List (Nat×Free.gN)}{f n:Nat}{E me:Int}{hb:Nat}{l:List aV}{nw:aV}(hK:K= [(5, .ind (Tf f) (λx w=>w.cell? ⟨x,0,none⟩=some (.pointer (some ⟨hb,0,none⟩))/\w.cell? ⟨x+1,0,none⟩=some (.int .i64 me))),
  (6, .ind (oK n) (λx w=>SL w 7 aK (aS x) l/\n<=cS x)),(17, .ind (Rb E n) (λx w=>E=0->SL w 7 aK (some ⟨x,0,none⟩) (l++ [nw])))]):Free.dm K:=by
 subst hK;intro j mk r hf y w1 w2 hr rr;simp only[Free.find]at hf
 repeat' split at hf
 ·cases hf;exact⟨aO hr.1 rr,aO hr.2 rr⟩
 ·cases hf;exact⟨hr.1.below rr (aL _),hr.2⟩
 ·cases hf;exact λh=>(hr h).below rr (aL _)
 ·cases hf
theorem bS.tail{we w w4 w5 w6:World}{n g:Nat}{p:Pl}{s s':HS}{v v':Value}{e:Ending}(h0:HC we w n p s)(hb:Below w.heap.size w w4)(h:bS we w4 n p s' v e w5)(h1:w.heap.size<=g)(h2:g<w4.heap.size)(hg:w5.grownBy w6 (some g)):bS we w n p s' v' (.returned v') w6:=by
 obtain⟨_,p',e1,e2,e3,h4,h5,h6⟩:=h;have hwe:=h0.pj.e.bl.size;have k6:aJ (λk=>k=g) w5 w6:=(aJ.refl (λk=>k=g) w5).grown hg (λk e _=>by injection e with e;exact e.symm);refine⟨rfl,p',e1,e2,e3,h4.bD k6 (λk hk e=> ?_) (λk e=>by omega),(((aJ.aY hb).trans h5 (λ_ _ f=>f)).trans k6 (λk hk e=>absurd hk (by omega))),λk hk=>(h6 k hk).imp id (λh=>fO hb.size h)⟩;subst e;rcases h6 k hk with h|h
 ·have:=h0.lt h;omega
 ·omega
def gM(r:aV×Int):Value:= .tuple #[fv r.1, .int .i64 r.2]
set_option maxHeartbeats 2000000 in
theorem Ch{we w:World}{n:Nat}{p:Pl}{s:HS}(day:Int)(body:ByteArray)(h:HC we w n p s)(hi:lv s)(hd0: -9223372036854775808<=day)(hd1:day<=9223372036854775807)(hb:body.size<=400000000)(hT:cB w)(hpend:s.js.d.aF.length<=900000)(hrec:s.js.bW.length<=1000000):
  Calls Tryz.prog 48 #[.pointer (some ⟨p.o.hb,0,none⟩), .int .i64 day, .string body] w (bS we w n p (s.add n day body).1 (gM (s.add n day body).2)):=by
 obtain⟨R,eR⟩:=x_ (bS we w n p (s.add n day body).1 (gM (s.add n day body).2))
 rw[<-eR];obtain⟨j,ej,hj⟩:=hi.at;obtain⟨l,el⟩:=x_ (bE s s.me)
 obtain⟨E,eE⟩:=x_ (eI l s.me s.secret day body)
 obtain⟨nw,enw⟩:=x_ (s.next day body)
 obtain⟨tx0,etx⟩:=x_ (aP nw)
 have hlen:l.length<=1000000:=by rw[el];unfold bE fA bJ;rw[jQ,rm,fe];have:=gE s.aw s.me;have:=hi.e.jX;omega
 have hFew:PG l:=λe he=>by
  rw[el]at he;have he2:=List.mem_of_mem_take he;obtain⟨t,ht,rfl⟩:=nS.1 he2;have h1:=(dY _ _).mem_iff.1 ht;unfold j6 at h1;obtain⟨p,hp,rfl⟩:=nS.1 h1;have h2:=(PY.1 hp).1;have h3:fP s.aw p.1=p.2:=by unfold fP;rw[Mk.get_some h.hr.mp.nodup h2];rfl
  rw[h3];exact hi.e.ok p h2
 have h12:=hi.KI;have hmep:=hi.me;have hmn:(-9223372036854775808:Int)<=s.me/\s.me<=9223372036854775807:=by omega
 have hnw:nw=dn l s.me s.secret day body:=by rw[enw,el];rfl
 obtain⟨hno,hnp,hnb⟩:=ky l s.me s.secret day body hlen hmn.1 hmn.2 hd0 hd1 (by omega);rw[<-hnw]at hno hnp hnb;have hnb2:nw.body=body:=by rw[hnw];rfl
 have hnp2:nw.prev.size<=64:=by rw[hnw];exact gW l
 have hts:tx0.size<=1000000000:=by have:=j9 hno;rw[hnb2]at this;rw[etx];omega
 have hA:Hid (s.add n day body=if E≠0 then(s,aM,E)else if 2000<tx0.size then(s,aM,3)else if(s.store n nw tx0).2≠0 then((s.store n nw tx0).1,aM,(s.store n nw tx0).2)else((s.store n nw tx0).1,nw,0)):=h_ (by rw[etx,enw,eE,el];rfl);obtain⟨V,eV⟩:=x_ (w.alloc (.cells #[.int .i64 0, .int .i64 0, .int .i64 0, .string ⟨#[]⟩, .string ⟨#[]⟩, .int .i64 0, .int .i64 0] 42))
 have hbk:ay V w.heap.size bO 42:=by rw[eV];exact ay.new w bO 42
 have hbV:Below w.heap.size w V:=by rw[eV];exact(Below.refl _ _).alloc (aL _) _
 have hV:=h.grow hbV;have hTV:=hT.below hbV (aL _);have EV:Hid (w.alloc (.cells #[.int .i64 0, .int .i64 0, .int .i64 0, .string ⟨#[]⟩, .string ⟨#[]⟩, .int .i64 0, .int .i64 0] 42)=V):=h_ eV.symm;have HQ:Hid (∀w',Below V.heap.size V w'->w'.cell? ⟨p.o.hb,3,none⟩=some (.int .i64 s.me)/\w'.cell? ⟨p.o.hb,4,none⟩=some (.int .i64 s.secret)):=h_ λw' h=>⟨(hV.grow h).hr.bg.ag 3 _ rfl,(hV.grow h).hr.bg.ag 4 _ rfl⟩
 have C1:=h_ (λw'=>lP p.o.hb s.me w');have C2:=h_ (λb1 b2 w' (h:Below V.heap.size V w') h1 h2=>yj b1 b2 p.o s j w' (hV.grow h).hr hi hj (hTV.below h (aL _)) h1 h2);rw[<-ej, <-el]at C2;have C3:=h_ (λA c w' (h:Below V.heap.size V w') hs hc=>KW A c l s.me s.secret day body w' hs hlen hc hFew hmn.1 hmn.2 hd0 hd1 (by omega) (hTV.below h (aL _)));have HBK:=h_ hbk;have HBV:=h_ hbV;have HV:=h_ hV;have HT:Hid (∀w',Below V.heap.size V w'->cB w'):=h_ λw' h=>hTV.below h (aL _)
 have CR:=h_ (λw' hT=>nI nw w' hno hnp hnb hT);rw[<-etx]at CR;have CS:=h_ (λw' (h:HC we w' n p s)=>sO nw tx0 h hts hpend hrec);have ER:=h_ eR;have EE:=h_ eE;have ENW:=h_ hnw;have HI:=h_ (cE bO rfl);have HZ1:Hid (∀u∈bO,u.oneCell'=true):=h_ (cm aM);have HW:Hid (w.heap.size<V.heap.size):=h_ hbk.lt;have HL:=h_ hlen;have H0:=h_ h;clear eR eV hbk hbV hV hTV h hi hd0 hd1 hb hT hpend hrec ej hj el eE enw etx hFew h12 hmep hmn hnw hno hnp hnb hnb2 hnp2 hts hlen;go_enter Tryz.func48,Tryz.ntmps48;go_wp2_with (simp only[EV.out])
 refine Free.ai 23 [(5, .ind (Tf 124) (λx w=>w.cell? ⟨x,0,none⟩=some (.pointer (some ⟨p.o.hb,0,none⟩))/\w.cell? ⟨x+1,0,none⟩=some (.int .i64 s.me))),
  (6, .ind (oK l.length) (λx w=>SL w 7 aK (aS x) l/\l.length<=cS x)),(17, .ind (Rb E l.length) (λx w=>E=0->SL w 7 aK (some ⟨x,0,none⟩) (l++ [nw])))] (λy=>Below V.heap.size V y) (by kernel_rfl) (by kernel_rfl) (Rc rfl) (Below.refl _ _).drew (λ_ _ h g=>h.trans (Below.mono g h.size)) ?_
 simp only[eJ,dT];iterate 5 (apply Free.ae rfl rfl;(intro w' hB hA;cases HQ.out w' hB;clear hA hB;go_light;go_simp<;>rfl);(try simp only[Pt]))
 apply Free.aR rfl rfl
 ·intro w' hB hA;refine Free.au (f:=80) (args:= #[.pointer (some ⟨p.o.hb,0,none⟩), .int .i64 s.me]) (by clear hB hA;go_simp<;>rfl) ?_;refine(C1.out w').mono ?_;rintro e w3 ⟨rfl,rfl⟩;refine⟨_,rfl,((Below.refl _ _).alloc (aL _) _).alloc (by simp) _,w'.heap.size,rfl, ?_, ?_⟩
  ·exact((ay.new w' [.pointer (some ⟨p.o.hb,0,none⟩)] _).alloc _).ag 0 _ rfl
  ·exact(ay.made (l:= [.int .i64 s.me]) (by simp) rfl).ag 0 _ rfl
 intro x5;simp only[Pt];apply Free.aR rfl rfl
 ·intro w' hB hA;have h5:=hA _ dH (by kernel_rfl);dsimp only at h5;refine Free.au (f:=83) (args:= #[Tf 124 x5]) (by clear hB hA h5;go_simp<;>rfl) ?_;refine(C2.out x5 (x5+1) w' hB h5.1 h5.2).mono ?_;rintro e w3 ⟨A,c,rfl,hc,hs,hAc,hb3⟩;obtain⟨x,rfl,rfl⟩:=Hb hAc;exact⟨_,rfl,hb3,x,rfl,hs,hc⟩
 intro x6;simp only[Pt];iterate 10 (apply Free.ae rfl rfl;(intro w' hB hA;cases HQ.out w' hB;clear hA hB;go_light;go_simp<;>rfl);(try simp only[Pt]))
 apply Free.aR rfl rfl
 ·intro w' hB hA;have h6:=hA (6,_) (dH) (by kernel_rfl);dsimp only at h6;refine Free.au (f:=82) (args:= #[oK l.length x6, .int .i64 s.me, .int .i64 s.secret, .int .i64 day, .string body]) (by clear hB hA h6;go_simp<;>rfl) ?_;refine(C3.out (aS x6) (cS x6) w' hB h6.1 h6.2).mono ?_;rintro e w3 ⟨hb3,⟨hne,rfl⟩|⟨h0,b,_,rfl,hs⟩⟩
  ·rw[<-EE.out]at hne⊢;exact⟨_,rfl,hb3,0,by unfold Rb Ss QZ;rw[if_neg hne,if_neg hne],λh=>absurd h hne⟩
  ·rw[<-EE.out]at h0;rw[<-ENW.out]at hs;exact⟨_,rfl,hb3,b,by unfold Rb Ss QZ;rw[if_pos h0,if_pos h0,h0],λ_=>hs⟩
 intro x17;simp only[Pt];iterate 5 (apply Free.ae rfl rfl;(intro w' hB hA;cases HQ.out w' hB;clear hA hB;go_light;go_simp<;>rfl);(try simp only[Pt]))
 apply Free.ax;intro w1 hb1 _ hh;have h17:=hh _ dH;dsimp only at h17;simp only[fm,fo];have HB1:=h_ hb1;have H17:=h_ h17;clear hb1 hh h17 HQ C1 C2 C3;have FE:Hid (∀w' x c,s.add n day body=(s,x,c)->Below w.heap.size w w'->R (.returned (gM (x,c))) w'):=h_ λw' x c he hb'=>by
  rw[ER.out,he];exact bS.same H0.out hb' _
 have c6:=(HBK.out.below HB1.out HBK.out.lt)
 by_cases hE:E=0
 ·subst hE;simp only[Rb,Ss,QZ,uf,eq_self];have hs17:=H17.out rfl;obtain⟨k,ek⟩:=x_ l.length
  rw[<-ek];have hk6:k<=1000000:=by rw[ek];exact HL.out
  have hsub:IntKind.i64.wrap (((k+1:Nat):Int)-1)=(k:Int):=by rw[IntWalk.i64_left,IntWalk.wrap64_in _ ⟨by omega,by omega⟩];omega
  obtain⟨cs,ecs⟩:=x_ (aK nw)
  have hM:Hid (w1.rangeAt x17 (k*7) cs):=h_ (by have h:=dq hs17 (k:=k) (x:=nw) (by rw[ek];simp);rw[nW]at h;rw[ecs];exact h);have HIC:=h_ (cE cs (by rw[ecs];rfl));have HO:=h_ (show ∀u∈cs,u.oneCell'=true by rw[ecs];exact cm nw);have HCL:Hid (cs.length=7):=h_ (by rw[ecs];rfl);obtain⟨w2,e2⟩:=x_ (w1.alloc (.cells cs.toArray 42))
  have HE2:=h_ e2;have hb2:Below w1.heap.size w1 w2:=by rw[e2];exact(Below.refl _ _).alloc (aL _) _
  have hbk2:ay w2 w1.heap.size cs 42:=by rw[e2];exact ay.new w1 cs 42
  have HB2:=h_ (HB1.out.trans (hb2.mono HB1.out.size));have HM2:Hid (∀w',Below w2.heap.size w2 w'->w'.rangeAt w1.heap.size 0 cs):=h_ λw' h=>rg_of (hbk2.below h hbk2.lt)
  have HM20:=h_ (HM2.out w2 (Below.refl _ _));have HC2:=h_ (c6.below hb2 c6.lt);have HW1:Hid (w1.heap.size<w2.heap.size):=h_ hbk2.lt;clear hb2 hbk2;have HC6:=h_ c6;have ECS:=h_ ecs;clear hs17 c6 H17 ek e2 ecs;go_wp2_with (first
   |(refine aH (.tmp 42) ?_;refine wpList_load_mid rfl 42 (.tmp 42) rfl x17 (k*7) rfl cs _ hM.out Tryz.underlying42 rfl HIC.out ?_)
   |(refine aN (.tmp 10) ?_;refine Hk.aD rfl 42 (.tmp 10) (.tmp 43) rfl w1.heap.size cs.toArray rfl rfl _ 42 rfl (by rw[HIC.out];simp) (by simp[HCL.out]) (all_oneCell_toArray HO.out) ?_;rw[<-HE2.out];simp only[Pt])
   |(refine aH (.tmp 10) ?_;refine wpList_load_mid rfl 42 (.tmp 10) rfl w1.heap.size 0 rfl cs _ HM20.out Tryz.underlying42 rfl HIC.out ?_))
  have CR2:=CR.out w2 (HT.out w2 HB2.out);rw[<-ECS.out]at CR2;refine CR2.mono ?_;rintro e w3 ⟨rfl,hb3⟩;have HB3:=h_ hb3;have HBW3:Hid (Below w.heap.size w w3):=h_ (HBV.out.trans ((HB2.out.trans (hb3.mono HB2.out.size)).mono HBV.out.size));have HC3:=h_ (HC2.out.below hb3 HC2.out.lt);clear hb3 CR2;have OJ:s.add n day body=if 2000<tx0.size then(s,aM,3)else if(s.store n nw tx0).2≠0 then((s.store n nw tx0).1,aM,(s.store n nw tx0).2)else((s.store n nw tx0).1,nw,0):=by rw[hA.out,if_neg (by simp)]
  have HE1:=h_ OJ;clear OJ hA;by_cases h2:2000<tx0.size
  ·have t1:decide ((2000:Int)<(tx0.size:Int))=true:=dt (by omega);go_wp2_with (refine aN (.tmp 6) ?_;refine Hk.aZ rfl 42 (.tmp 6) (.tmp 49) rfl w.heap.size rfl bO rfl bO 42 HC3.out HI.out rfl HZ1.out ?_;intro w9 h91 h92 h93;have H91:=h_ h91;have H92:=h_ h92;clear h91 h92 h93;simp only[Act.put])
   refine bodyPost_ret (v:=gM (aM,3)) (Hk.aB (fn:=Tryz.f48) (p:=6) (u:=7) (ty:=42) rfl _ _ w.heap.size 42 bO.toArray (0,0) _ rfl H91.out Tryz.underlying42 rfl (by rw[HI.out];simp) rfl) rfl ?_;exact FE.out w9 aM 3 (by rw[HE1.out,if_pos h2]) (HBW3.out.trans (below_grown H92.out (λg hg=>by injection hg with e;omega) HBW3.out.size))
  ·have t1:decide ((2000:Int)<(tx0.size:Int))=false:=dy (by omega);have HE3:=h_ (HE1.out.trans (if_neg h2));have HM3:=h_ (HM2.out w3 HB3.out);clear HE1 h2;go_wp2_with (refine aH (.tmp 10) ?_;refine wpList_load_mid rfl 42 (.tmp 10) rfl w1.heap.size 0 rfl cs _ HM3.out Tryz.underlying42 rfl HIC.out ?_)
   have CS3:=CS.out w3 (H0.out.grow HBW3.out);rw[<-ECS.out]at CS3;refine CS3.mono ?_;intro e w4 hp4;obtain rfl:=hp4.1;obtain⟨r,er⟩:=x_ (s.store n nw tx0)
   rw[<-er]at hp4 HE3⊢;obtain⟨s',c⟩:=r;have hgo:aJ p.F w3 w4:=by obtain⟨_,p',_,_,_,_,h5,_⟩:=hp4;exact h5
   have hsz3:w.heap.size<w3.heap.size:=HC3.out.lt;have h6n:∀k,w.heap.size<=k-> ¬p.F k:=λk hk hF=>by have:=H0.out.lt hF;omega
   have HC4:=h_ (HC3.out.bG (hgo.block _ hsz3 (h6n _ (aL _))));have hm4:w1.heap.size<w3.heap.size:=nX HW1.out HB3.out.size;have hw1w:w.heap.size<=w1.heap.size:=(HBV.out.trans (HB1.out.mono HBV.out.size)).size;have HM4:Hid (w4.rangeAt w1.heap.size 0 cs):=h_ λj v hj=>by
    rw[World.cell?_of_block (a:=⟨w1.heap.size,0+j,none⟩) (hgo.block _ hm4 (h6n _ hw1w))];exact HM3.out j v hj
   have HP4:=h_ hp4;have HSZ:=h_ hsz3;clear hp4 hgo hsz3 h6n hm4 hw1w CS3 er;dsimp only at HE3 HP4⊢;by_cases hc0:c=0
   ·subst hc0;go_wp2_with (first
     |(refine aH (.tmp 10) ?_;refine wpList_load_mid rfl 42 (.tmp 10) rfl w1.heap.size 0 rfl cs _ HM4.out Tryz.underlying42 rfl HIC.out ?_)
     |(refine aN (.tmp 6) ?_;refine Hk.aZ rfl 42 (.tmp 6) (.tmp 58) rfl w.heap.size rfl cs rfl bO 42 HC4.out HIC.out (by rw[HCL.out];rfl) HO.out ?_;intro w9 h91 h92 h93;have H91:=h_ h91;have H92:=h_ h92;clear h91 h92 h93;simp only[Act.put]))
    refine bodyPost_ret (v:= .tuple #[.agg cs.toArray, .int .i64 0]) (Hk.aB (fn:=Tryz.f48) (p:=6) (u:=7) (ty:=42) rfl _ _ w.heap.size 42 cs.toArray (0,0) _ rfl H91.out Tryz.underlying42 rfl (by rw[HIC.out];simp) rfl) rfl ?_;rw[show(.tuple #[.agg cs.toArray, .int .i64 0]:Value)=gM (nw,0) by rw[ECS.out];rfl];rw[ER.out,HE3.out,if_neg (by simp)];exact bS.tail H0.out HBW3.out HP4.out (aL _) HSZ.out H92.out
   ·have hcb:(c !=0)=true:=by simpa using hc0
    go_wp2_with (refine aN (.tmp 6) ?_;refine Hk.aZ rfl 42 (.tmp 6) (.tmp 56) rfl w.heap.size rfl bO rfl bO 42 HC4.out HI.out rfl HZ1.out ?_;intro w9 h91 h92 h93;have H91:=h_ h91;have H92:=h_ h92;clear h91 h92 h93;simp only[Act.put])
    refine bodyPost_ret (v:=gM (aM,c)) (Hk.aB (fn:=Tryz.f48) (p:=6) (u:=7) (ty:=42) rfl _ _ w.heap.size 42 bO.toArray (0,0) _ rfl H91.out Tryz.underlying42 rfl (by rw[HI.out];simp) rfl) rfl ?_;rw[ER.out,HE3.out,if_pos hc0];exact bS.tail H0.out HBW3.out HP4.out (aL _) HSZ.out H92.out
 ·have hEb:(E !=0)=true:=by simpa using hE
  have HC6:=h_ c6;clear c6;go_wp2_with (refine aN (.tmp 6) ?_;refine Hk.aZ rfl 42 (.tmp 6) (.tmp 36) rfl w.heap.size rfl bO rfl bO 42 HC6.out HI.out rfl HZ1.out ?_;intro w9 h91 h92 h93;have H91:=h_ h91;have H92:=h_ h92;clear h91 h92 h93;simp only[Act.put])
  refine bodyPost_ret (v:=gM (aM,E)) (Hk.aB (fn:=Tryz.f48) (p:=6) (u:=7) (ty:=42) rfl _ _ w.heap.size 42 bO.toArray (0,0) _ rfl H91.out Tryz.underlying42 rfl (by rw[HI.out];simp) rfl) rfl ?_;exact FE.out w9 aM E (by rw[hA.out,if_pos hE]) ((HBV.out.trans (HB1.out.mono HBV.out.size)).trans (below_grown H92.out (λg hg=>by injection hg with e;omega) (HBV.out.trans (HB1.out.mono HBV.out.size)).size))
end Go.Proofs.YtkmbmfengcdmoaaGreatDoor
