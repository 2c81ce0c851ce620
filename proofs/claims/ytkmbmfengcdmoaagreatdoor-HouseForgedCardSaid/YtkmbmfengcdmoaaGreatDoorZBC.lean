/- What the iterators' texts lean on. No condition. -/
import Derived.Test.YtkmbmfengcdmoaaGreatDoorZBB
import Derived.Deep.QuietTactic
import Derived.BigQuiet
import Derived.Test.YtkmbmfengcdmoaaGreatDoorZAJ
import Derived.Test.YtkmbmfengcdmoaaGreatDoorZAA
import Derived.Test.YtkmbmfengcdmoaaGreatDoorZAI
import Derived.Test.YtkmbmfengcdmoaaGreatDoorZAK
import Derived.Test.YtkmbmfengcdmoaaGreatDoorZAH
set_option maxRecDepth 100000
set_option linter.all false
namespace Go.Proofs.YtkmbmfengcdmoaaGreatDoor
open Go.RowKit Go.ay Go.Jn Go.Dk Go.Ho Go.Opn Go.Maps Go.WideMaps Go.Apl Go.Mg
def G8(W:World)(l:List aV)(e:Ending)(w':World):Prop:=
 ∃g c,e= .returned (.slice (some ⟨g,0,none⟩) l.length c)/\l.length<=c/\c<=maxLen/\w'.ownsRow W.heap.size 42 7 (.slice (some ⟨g,0,none⟩) l.length c) l.length (l.flatMap aK)/\SL w' 7 aK (some ⟨g,0,none⟩) l/\Below W.heap.size W w'
theorem gV{α:Type}{ec:α->List Value}{sz:Nat}{w:World}{base:Nat}{e:TypeId}{v:Value}{l:List α}(hec:∀x,(ec x).length=sz)(h:w.ownsRow base e sz v l.length (l.flatMap ec)):∃A c,v= .slice A l.length c/\l.length<=c/\SL w sz ec A l:=by
 by_cases h0:l= []
 ·obtain⟨A,c,rfl⟩:=fG h;subst h0;exact⟨A,c,rfl,gu _,SL.nil⟩
 ·obtain⟨g,cap,cur,rfl,_,_,hc,_,_,hs⟩:=tm hec h h0;exact⟨_,cap,rfl,hc,hs⟩
def G9(k:Nat)(v:Value):Prop:=∃g c,v= .slice (some ⟨g,0,none⟩) k c/\k<=c/\c<=maxLen
theorem J6{w:World}{base:Nat}{e:TypeId}{sz k:Nat}{v:Value}{xs:List Value}(h:w.ownsRow base e sz v k xs)(hk:k≠0):G9 k v:=by
 obtain⟨_,⟨_,h0⟩|⟨g,cap,cur,h1,h2,h3,h4,h5,h6⟩⟩:=h
 ·exact absurd h0 hk
 ·exact⟨g,cap,h1,h4,h5⟩
theorem Mr{α:Type}{ec:α->List Value}{sz:Nat}{w:World}{base:Nat}{e:TypeId}{v:Value}{l:List α}(hec:∀x,(ec x).length=sz)(h:w.ownsRow base e sz v l.length (l.flatMap ec))(h0:G9 l.length v):∃g c,v= .slice (some ⟨g,0,none⟩) l.length c/\l.length<=c/\c<=maxLen/\SL w sz ec (some ⟨g,0,none⟩) l:=by
 by_cases hl:l= []
 ·obtain⟨g,c,rfl,h1,h2⟩:=h0;exact⟨g,c,rfl,h1,h2,by rw[hl];exact SL.nil⟩
 ·obtain⟨g,cap,cur,rfl,_,_,hc,hm,_,hs⟩:=tm hec h hl;exact⟨_,cap,rfl,hc,hm,hs⟩
theorem S1.start{W w4:World}{mb hb:Nat}{aw:dv}{house:Int}{bx:World}(eb:bx=W.alloc (.cells #[.pointer (some ⟨hb,0,none⟩)] 50))(hr:Mk.db w4 Value.string qw fv mb (W.heap.size+1) aw aw)(hg:bx.grownBy w4 none)(hz:w4.heap.size=bx.heap.size+1):
  S1 W mb hb aw house [] aw (.slice none 0 0) w4:=by
 have z:bx.heap.size=W.heap.size+1:=by rw[eb];simp
 have hb0:Below W.heap.size W bx:=by rw[eb];exact(Below.refl _ _).alloc (aL _) _
 refine⟨hr,by simp,World.ownsRow_nil _ _ _ _, ?_,hb0.trans ⟨hg.os,hg.tape,hg.output,by omega,λk hk=>hg.block k (by omega) (by simp)⟩,by omega⟩;rw[World.cell?_of_block (a:=⟨W.heap.size,0,none⟩) (hg.block W.heap.size (by omega) (by simp)),eb];exact(ay.new W [.pointer (some ⟨hb,0,none⟩)] 50).ag 0 _ rfl
theorem qn{w:World}{lo lo':Nat}{T:TypeId}{sz n:Nat}{v:Value}{xs:List Value}(h:w.ownsRow lo T sz v n xs)(hl:lo'<=lo):w.ownsRow lo' T sz v n xs:=by obtain⟨h1,h2⟩:=h;refine⟨h1,h2.imp id ?_⟩;rintro⟨g,cap,cur,e,hb,r⟩;exact⟨g,cap,cur,e,fO hl hb,r⟩
theorem Qp(y:Operand){P:Program}{ops:Array Oper}{rest:List Oper}{a:Act}{Q:Exit->Act->World->Prop}{t:TypeId}{x:Operand}{d:Option Tmp}{ty:TypeId}{ps:String}{af:Array Edge}{g:Option (Nat×Bool)}{w:World}
  (h:wpList P ops Q (⟨d, .makeSlice t x y,ty,ps,af,g⟩::rest) a w):wpList P ops Q (⟨d, .makeSlice t x y,ty,ps,af,g⟩::rest) a w:=h
theorem Ev{P:Program}{ρ:Operand->Value}{op:Oper}{w w':World}{t:TypeId}{x y:Operand}{v:Value}(ho:op.op= .makeSlice t x y)(h:(Instr.makeSlice t (ρ x) (ρ y)).run P w= .ok v w'):(execOp ρ op).run P w= .ok (.value v) w':=by unfold execOp;simp[ho,h]
theorem pI.grown{bx hb mb base n:Nat}{aw:dv}{w w':World}{T:TypeId}{v:Value}{xs:List Value}(h:pI bx hb mb aw w)(hr:w.ownsRow base T 1 v n xs)(hg:w.grownBy w' v.ownBlock)(h1:bx<base)(h2:hb<base):pI bx hb mb aw w':=by
 have hv:∀j,j<base->some j≠v.ownBlock:=λj hj e=>by have:=(World.ownsRow.lt hr j e.symm).1;omega
 refine⟨by rw[World.cell?_of_block (a:=⟨bx,0,none⟩) (hg.block bx (World.block_lt_of_cell? w _ h.box) (hv _ h1))];exact h.box,
  by rw[World.cell?_of_block (a:=⟨hb,8,none⟩) (hg.block hb (World.block_lt_of_cell? w _ h.mp) (hv _ h2))];exact h.mp,h.is.bD (hg.block _ h.is.lt (λe=> ?_))⟩
 obtain⟨es,ck,he,_⟩:=h.is;rcases hr.2 with⟨h2,_⟩|⟨g,cap,cur,h2,_,h4,_⟩
 ·rw[h2]at e;cases e
 ·rw[h2]at e;have e':mb=g:=by injection e
  rw[<-e',he]at h4;cases h4
theorem qu{aw done:dv}{house:Int}(h:done.Perm aw):BF (nL aw) (j6 done house)=nO aw house:=by unfold nO;refine tL (f:=nL aw) ?_ (mq _ _) (mq _ _);refine(dY _ _).trans (List.Perm.trans ?_ (dY _ _).symm);unfold j6;exact(h.filter _).map _
theorem gE(done:dv)(house:Int):(j6 done house).length<=done.length:=by unfold j6;rw[rm];exact List.length_filter_le _ _
theorem fe(aw:dv)(house:Int):(nO aw house).length=(j6 aw house).length:=(dY _ _).length_eq
theorem uC{α β:Type}{l:List α}{k:Nat}{x:α}(f:α->β)(h:l[k]? =some x):(l.take (k+1)).map f=(l.take k).map f++ [f x]:=by rw[zX,h,uE];rfl
theorem QT:∃i,Tryz.prog.info? 9=some i/\i.zero=some (.string ⟨#[]⟩)/\i.size=1/\i.bytes=16:=by
 have h:=QS;cases hi:Tryz.prog.info? 9 with
 |none=>rw[hi]at h;cases h
 |some i=>rw[hi]at h;simp only[GK,NS,NO]at h;exact⟨i,rfl,h.1,h.2.1,h.2.2⟩
theorem wF:∃i,Tryz.prog.info? 42=some i/\i.zero=some (fv aM)/\i.size=7/\i.bytes=72:=by
 have h:=IQ;cases hi:Tryz.prog.info? 42 with
 |none=>rw[hi]at h;cases h
 |some i=>rw[hi]at h;simp only[GK,NS,NO]at h;exact⟨i,rfl,h.1,h.2.1,h.2.2⟩
set_option maxHeartbeats 2000000 in
theorem kZ(o:Lo)(s:HS)(house:Int)(W:World)(h:HR W o s)(hE:Nc s.aw):Calls Tryz.prog 53 #[.pointer (some ⟨o.hb,0,none⟩), .int .i64 house] W (G8 W (bJ s.aw house)):=by
 obtain⟨hb,jb,mb,A,c⟩:=o;obtain⟨aw,ee⟩:=x_ s.aw
 have hmp:=h.mp;have hbl:=h.bg.lt;have c8:=h.bg.ag 8 _ rfl;dsimp only at hmp hbl c8⊢;rw[<-ee]at hmp hE⊢;obtain⟨R,eR⟩:=x_ (G8 W (bJ aw house))
 rw[<-eR];have ER:=h_ eR;clear ee h eR;obtain⟨V,eV⟩:=x_ (W.alloc (.cells #[.pointer (some ⟨hb,0,none⟩)] 50))
 have zV:V.heap.size=W.heap.size+1:=by rw[eV];simp
 have hbV:Below W.heap.size W V:=by rw[eV];exact(Below.refl _ _).alloc (aL _) _
 have HM:=h_ (hmp.bD (hbV.block _ hmp.lt));have cb:V.cell? ⟨W.heap.size,0,none⟩=some (.pointer (some ⟨hb,0,none⟩)):=by rw[eV];exact(ay.new W [.pointer (some ⟨hb,0,none⟩)] 50).ag 0 _ rfl
 have c8V:V.cell? ⟨hb,8,none⟩=some (.map (some mb)):=by rw[hbV.cell (by exact hbl)];exact c8
 have EV:Hid (W.alloc (.cells #[.pointer (some ⟨hb,0,none⟩)] 50)=V):=h_ eV.symm;have EV2:=h_ eV;have ZV:=h_ zV;have HE:=h_ hE;have HBL:Hid (hb<W.heap.size/\W.cell? ⟨hb,8,none⟩=some (.map (some mb))):=⟨hbl,c8⟩
 clear eV zV hbV hmp hbl c8 hE;go_enter Tryz.func53,Tryz.ntmps53;go_wp2_with (first
  |simp only[EV.out]
  |(refine Hj (.tmp 14) ?_;refine Mk.xw rfl (.tmp 14) rfl HM.out Tryz.underlying102 rfl ?_;intro w4 hr4 hg4 hz4;have HR4:=h_ hr4;have HG4:=h_ hg4;have HZ4:=h_ hz4;clear hr4 hg4 hz4;simp only[Pt]))
 have zz:=ZV.out;have HS1:Hid (S1 W mb hb aw house [] aw (.slice none 0 0) w4):=h_ (S1.start EV2.out (by have:=HR4.out;rwa[zz]at this) HG4.out HZ4.out);rw[zz];clear HR4 HG4 HZ4 HM EV EV2 ZV zz cb c8V
 go_loopw [5] (λv wr=> ∃done left,S1 W mb hb aw house done left v wr) (λ_ wr=>wr.rangeLeft mb (W.heap.size+1))
 case atStart=>exact⟨_,_,HS1.out⟩
 case round=>
  clear HS1;obtain⟨done,left,hra⟩:=hrel;have HRL:=h_ hra.rg.left_eq;have HRG:=h_ hra.rg;have HRA:=h_ hra;clear hra;cases left with
  |nil=>
   have hsz:=HRA.out.size;have hpm:done.Perm aw:=by have:=HRA.out.perm;rwa[DS]at this
   have hfew:(j6 done house).length<=1000000:=fO (gE _ _) (by rw[hpm.length_eq];exact HE.out.jX);have htok:∀t∈j6 done house,qw t:=λt ht=>by
    unfold j6 at ht;obtain⟨p,hp,rfl⟩:=nS.1 ht;exact HRA.out.rg.map.S9 p (hpm.mem_iff.1 (PY.1 hp).1)
   have hob:pI W.heap.size hb mb aw wr:=⟨HRA.out.box,by rw[HRA.out.below.cell (by exact HBL.out.1)];exact HBL.out.2,HRA.out.rg.map⟩
   have SR:=h_ (MP W.heap.size hb mb (W.heap.size+2) aw (j6 done house) htok u5 wr HRA.out.row hfew hob (by omega) (by have:=HBL.out.1;omega));have HOB:=h_ hob;have HPM:=h_ hpm;have HSZ:=h_ hsz;have HTOK:=h_ htok;clear hpm hfew htok hob hsz;go_wp2_with (refine Cl (.tmp 15) ?_;refine Mk.rl rfl (.tmp 15) rfl rfl HRG.out (λ_=> ?_) (λpre p post w' h=>absurd h (by simp));simp only[Pt])
   refine SR.out.mono ?_;rintro e w2 ⟨rfl,hg2,A2,c2,hv2,hsl2⟩;rw[qu HPM.out]at hsl2;obtain⟨T,eT⟩:=x_ (nO aw house)
   have hTn:T.length=(j6 done house).length:=by rw[eT, <-qu HPM.out];exact(dY _ _).length_eq
   have hTok:∀t∈T,qw t:=λt ht=>HTOK.out t (by rw[eT, <-qu HPM.out]at ht;exact(dY _ _).mem_iff.1 ht)
   have hob2:=HOB.out.grown HRA.out.row hg2 (by omega) (by have:=HBL.out.1;omega);have hb2:Below W.heap.size W w2:=HRA.out.below.trans ⟨hg2.os,hg2.tape,hg2.output,hg2.size,λk hk=>hg2.block k (by have:=HSZ.out;omega) (λe=>by have:=(World.ownsRow.lt HRA.out.row k e.symm).1;omega)⟩;have hTf:T.length<=1000000:=by rw[hTn];exact fO (gE _ _) (by rw[HPM.out.length_eq];exact HE.out.jX)
   obtain⟨iE,hi,hz0,hz1,hz2⟩:=wF;obtain⟨w3,hmk,hown3,hg3⟩:=run_make_own (P:=Tryz.prog) w2 w2.heap.size 56 42 iE _ 7 Tryz.underlying56 hi hz0 hz1 .i64 .i64 T.length (by rw[hz2];omega) (by unfold maxLen;omega) (aL _);rw[<-eT]at hsl2;rw[<-hTn]at hv2;subst hv2;have hb3:Below w2.heap.size w2 w3:=⟨hg3.os,hg3.tape,hg3.output,hg3.size,λk hk=>hg3.block k hk (by simp)⟩
   have HMK:=h_ hmk;have HOB2:=h_ hob2;have HB2:=h_ hb2;have HB3:=h_ hb3;have HSL:=h_ hsl2;have HTOK2:=h_ hTok;have HTF:=h_ hTf;have ET:=h_ eT;have HR0:Hid (w3.ownsRow w2.heap.size 42 7 (.slice (some ⟨w2.heap.size,0,none⟩) 0 T.length) 0 (((T.take 0).map (fP aw)).flatMap aK)):=hown3;clear eT hTn hTok hob2 hb2 hb3 hTf hi hz0 hz1 hz2 hmk hown3 hg3 hg2 hsl2 SR HRA HRG HRL HOB HPM HSZ HTOK;go_wp2_with (refine Qp (.tmp 33) ?_;refine Row.yP rfl (Ev rfl HMK.out) ?_;simp only[Pt])
   go_loopw [37,8] (λi v wr=> ∃k:Nat,i= .int .i64 (k:Int)/\k<=T.length/\G9 k v/\wr.ownsRow w2.heap.size 42 7 v k (((T.take k).map (fP aw)).flatMap aK)/\Below w2.heap.size w2 wr) (λi _ _=>T.length- (RowKit.intOf i).toNat)
   case atStart=>exact⟨0,rfl,gu _,⟨_,_,rfl,gu _,by have:=HTF.out;unfold maxLen;omega⟩,HR0.out,HB3.out⟩
   case round=>
    clear HR0;obtain⟨k,rfl,hk,hs0,hrow,hbw⟩:=hrel;have HS0:=h_ hs0;clear hs0;have HROW:=h_ hrow;have HBW:=h_ hbw;clear hrow hbw;rcases pC hk with hkl|hkl
    ·have hki:(k:Int)<(T.length:Int):=by omega
     have hkb:(k:Int)+1<=9223372036854775807:=by have:=HTF.out;omega
     obtain⟨t,et⟩:∃t,T[k]? =some t:=⟨_,eH hkl⟩
     have hsw:=HSL.out.below HBW.out (aL _);obtain⟨bt,ot,rfl⟩:=cG hsw (by intro e;rw[e]at hkl;simp at hkl);obtain⟨_,_,e1,hc1⟩:=hsw.at_ et;cases e1
     have c1:wr.cell? ⟨bt,ot+k,none⟩=some (.string t):=by have:=hc1 0 _ rfl;simpa using this
     have hob:=HOB2.out.below HBW.out;have cb:=hob.box;have c8:=hob.mp;have HIS:=h_ hob.is;have htk:=HTOK2.out t (ue et);obtain⟨cs,ecs⟩:=x_ (aK (fP aw t))
     have hev:fv (fP aw t)= .agg cs.toArray:=by rw[ecs];rfl
     have hcl:cs.length=7:=by rw[ecs];rfl
     obtain⟨iE,hi,hz0,hz1,hz2⟩:=wF;have HBS:Hid ((Instr.buildSlice 56 1 #[(0, .agg cs.toArray)]).run Tryz.prog wr= .ok (.slice (some ⟨wr.heap.size,0,none⟩) 1 1) (wr.alloc (.cells cs.toArray 42))):=h_ (Apk.fj (P:=Tryz.prog) wr 56 42 iE _ Tryz.underlying56 hi hz0 cs.toArray (by rw[tY,hcl,hz1]) (by rw[hz1];decide) (by rw[hz1];decide));have hba:Below wr.heap.size wr (wr.alloc (.cells cs.toArray 42)):=(Below.refl _ _).alloc (aL _) _;have hra:(wr.alloc (.cells cs.toArray 42)).ownsRow w2.heap.size 42 7 u8 k (((T.take k).map (fP aw)).flatMap aK):=bC HROW.out (λj e=>hba.block j (World.ownsRow.lt HROW.out j e).2);have hszw:=HBW.out.size;have HAP:Hid (∀(Q:Exit->Act->World->Prop) (ops:Array Oper) (rest:List Oper) (o:Oper) (a:Act),o.guard=none->o.op= .call {callee:= .builtin .append,args:= #[.tmp 41, .tmp 48],argTypes:= #[56,56]}->a.eval (.tmp 41)=u8->a.eval (.tmp 48)= .slice (some ⟨wr.heap.size,0,none⟩) 1 1->(∀u w9,Hid (w9.ownsRow w2.heap.size 42 7 u (k+1) (((T.take (k+1)).map (fP aw)).flatMap aK)/\Below w2.heap.size w2 w9)->wpList Tryz.prog ops Q rest (a.put o.dst u) w9)->wpList Tryz.prog ops Q (o::rest) a (wr.alloc (.cells cs.toArray 42))):=h_ (by
      intro Q ops rest o a hgd ho hx hy hk';refine dF hgd (.tmp 41) (.tmp 48) 56 ho w2.heap.size 42 iE _ 72 Tryz.underlying56 hi hz0 hz1 hz2 rfl (by decide) bT cm u8 k _ hx hra (some ⟨wr.heap.size,0,none⟩) 1 [fP aw t] hy (cO bT (ay.new wr cs 42) (λj u hu=>by simpa[<-ecs]using hu)) (by simp only[DT];unfold maxLen;omega) (by simp only[DT];have:=HTF.out;omega) (by rw[World.size_alloc];omega) ?_;intro u w9 h9 hg9 _;refine hk' u w9 (h_ ⟨by rw[uC _ et,DU];exact h9,(HBW.out.trans (hba.mono hszw)).trans ⟨hg9.os,hg9.tape,hg9.output,hg9.size,λj hj=>hg9.block j (by rw[World.size_alloc];omega) (λe=>by have:=(World.ownsRow.lt hra j e.symm).1;omega)⟩⟩))
     have HEV:=h_ hev;clear hsw hc1 hob ecs hev hcl hi hz0 hz1 hz2 hba hra hszw et hk;go_wp2_with (first
      |(refine K9 (.tmp 46) ?_;refine Row.still rfl (nB rfl HIS.out htk rfl rfl) ?_;rw[HEV.out];simp only[Pt])
      |(refine Qn (.tmp 47) ?_;refine Row.yP rfl (Apl.fB rfl HBS.out) ?_;simp only[Pt])
      |(refine v8 (.tmp 41) (.tmp 48) ?_;refine HAP.out _ _ _ _ _ rfl rfl rfl rfl ?_;intro u w9 H9;simp only[Pt]))
     go_roundw
     case rel=>exact⟨k+1,rfl,hkl,J6 H9.out.1 (by omega),H9.out.1,H9.out.2⟩
     case measure=>simp[RowKit.intOf];omega
    ·have hki: ¬(k:Int)<(T.length:Int):=by omega
     have G:Hid (R (.returned u8) wr):=h_ (by
      have h1:=HROW.out;have e2:(T.take k).map (fP aw)=bJ aw house:=by rw[hkl,KK,ET.out];rfl
      have e3:(bJ aw house).length=k:=by rw[<-e2];simp;omega
      rw[e2]at h1;rw[<-e3]at h1;obtain⟨g9,c9,rfl,hc9,hm9,hs9⟩:=Mr bT h1 (by rw[e3];exact HS0.out);have hsz2:=HB2.out.size;rw[ER.out];exact⟨g9,c9,rfl,hc9,hm9,qn h1 hsz2,hs9,HB2.out.trans (HBW.out.mono hsz2)⟩)
     clear hk hkl;go_wp2_with fail;exact G.out
  |cons p0 left0=>
   go_wp2_with (first
    |(
      refine Cl (.tmp 15) ?_;refine Mk.rl rfl (.tmp 15) rfl rfl HRG.out (λh=>absurd h (by simp)) ?_;intro pre p post w5 hl5 hr5 hg5 hz5 he5;have hk5:=HRA.out.next hl5 hr5 hg5;have HME:Hid (wr.rangeLeft mb (W.heap.size+1)=(pre++post).length+1):=h_ (by rw[HRL.out,hl5];simp;omega);obtain⟨t,x⟩:=p;obtain⟨cs,ecs⟩:=x_ (aK x)
      have hev:fv x= .agg cs.toArray:=by rw[ecs];rfl
      rw[hev]at he5⊢;have hcl:cs.length=7:=by rw[ecs];rfl
      have hc1:∀u∈cs,u.oneCell'=true:=by rw[ecs];exact cm x
      obtain⟨W6,e6⟩:=x_ (w5.alloc (.cells cs.toArray 42))
      have hb6:Below w5.heap.size w5 W6:=by rw[e6];exact(Below.refl _ _).alloc (aL _) _
      have d0:W6.cell? ⟨w5.heap.size,0,none⟩=some (.int .i64 x.house):=by rw[e6];exact(ay.new w5 cs 42).ag 0 _ (by rw[ecs];rfl)
      have hk7:=hk5.grow (hb6.trans ((Below.refl _ W6).alloc (o:= .cells #[.string t] 9) hb6.size));have hln:=hk7.len;have hef:=HE.out.jX;have HK:=h_ (hk5.grow hb6);have HAP:Hid (∀(Q:Exit->Act->World->Prop) (ops:Array Oper) (rest:List Oper) (o:Oper) (a:Act),o.guard=none->o.op= .call {callee:= .builtin .append,args:= #[.tmp 25, .tmp 27],argTypes:= #[137,137]}->a.eval (.tmp 25)=u5->a.eval (.tmp 27)= .slice (some ⟨W6.heap.size,0,none⟩) 1 1->(∀u w9,Hid ((x.house==house)=true->S1 W mb hb aw house (done++ [(t,x)]) (pre++post) u w9)->wpList Tryz.prog ops Q rest (a.put o.dst u) w9)->wpList Tryz.prog ops Q (o::rest) a (W6.alloc (.cells #[.string t] 9))):=h_ (by
       intro Q ops rest o a hgd ho hx hy hk;obtain⟨i0,hi,hz0,hz1,hz2⟩:=QT;refine dF hgd (.tmp 25) (.tmp 27) 137 ho (W.heap.size+2) 9 i0 _ 16 Tryz.underlying137 hi hz0 hz1 hz2 rfl (by decide) sC Il u5 (j6 done house).length _ hx hk7.row (some ⟨W6.heap.size,0,none⟩) 1 [t] hy (cO sC (ay.new W6 [.string t] 9) (λj u hu=>by simpa[mW]using hu)) (by simp only[DT];unfold maxLen;omega) (by simp only[DT];omega) hk7.size ?_;intro u w9 h9 hg9 _;exact hk u w9 (h_ λhp=>hk7.add hp h9 (by simp) hg9))
      have HST:Hid (∀(Q:Exit->Act->World->Prop) (ops:Array Oper) (rest:List Oper) (o:Oper) (a:Act),o.guard=none->o.op= .store 42 (.tmp 7) (.tmp 20)->a.eval (.tmp 7)= .pointer (some ⟨w5.heap.size,0,none⟩)->a.eval (.tmp 20)= .agg cs.toArray->∀ju:Array Value,ju.size=7->wpList Tryz.prog ops Q rest (a.put o.dst undef) W6->wpList Tryz.prog ops Q (o::rest) a (w5.alloc (.cells ju 42))):=h_ (by
       intro Q ops rest o a hgd ho hx hy ju hold hk;rw[e6]at hk;exact Hk.aD hgd 42 (.tmp 7) (.tmp 20) ho w5.heap.size _ hx hy ju 42 rfl (by rw[show cs.toArray.size=7 by simpa using hcl];kernel_rfl) (by rw[hold];simp[hcl]) (all_oneCell_toArray hc1) hk)
      clear hl5 hr5 hg5 hz5 hk5 hk7 hln hef ecs hev hcl hc1 e6 hb6;have hh:(x.house==house)=true\/(x.house==house)=false:=by cases (x.house==house)<;>simp
      simp only[Pt];rcases hh with hh|hh)
    |(refine aN (.tmp 7) ?_;refine HST.out _ _ _ _ _ rfl rfl rfl rfl _ (by simp) ?_;simp only[Pt])
    |(refine v8 (.tmp 25) (.tmp 27) ?_;refine HAP.out _ _ _ _ _ rfl rfl rfl rfl ?_;intro u w9 H9;simp only[Pt]))
   ·go_roundw
    case rel=>exact⟨_,_,H9.out hh⟩
    case measure=>have h1:=HME.out;have h2:=(H9.out hh).rg.left_eq;omega
   ·go_roundw
    case rel=>exact⟨_,_,HK.out.skip hh⟩
    case measure=>have h1:=HME.out;have h2:=HK.out.rg.left_eq;omega
structure NW (w:World) (b:Nat) (e:aV):Prop where
 c0:w.cell? ⟨b,0,none⟩=some (.int .i64 e.house)
 c1:w.cell? ⟨b,1,none⟩=some (.int .i64 e.seq)
 c2:w.cell? ⟨b,2,none⟩=some (.int .i64 e.day)
 c5:w.cell? ⟨b,5,none⟩=some (.int .i64 e.r)
 c6:w.cell? ⟨b,6,none⟩=some (.int .i64 e.s)
theorem NW.of{w:World}{b:Nat}{e:aV}{T:TypeId}(h:ay w b (aK e) T):NW w b e:=⟨h.ag 0 _ rfl,h.ag 1 _ rfl,h.ag 2 _ rfl,h.ag 5 _ rfl,h.ag 6 _ rfl⟩
theorem rg_of{w:World}{b:Nat}{cs:List Value}{T:TypeId}(h:ay w b cs T):w.rangeAt b 0 cs:=(show Row w b T cs from h).range (λj v hv=>by rw[nW];exact hv)
theorem cE(cs:List Value)(h:cs.length=7):(Tryz.prog.info? 42).map (·.size)=some cs.length:=by rw[h];kernel_rfl
set_option maxHeartbeats 1000000 in
theorem nI(e0:aV)(W:World)(ho:e0.Ok)(hp:e0.prev.size<=1000000000)(hb:e0.body.size<=1000000000)(hT:cB W):
  Calls Tryz.prog 50 #[.agg (aK e0).toArray] W λe w'=>e= .returned (.string (aP e0))/\Below W.heap.size W w':=by
 obtain⟨R,eR⟩:=x_ (λe w'=>e= .returned (.string (aP e0))/\Below W.heap.size W w':Ending->World->Prop)
 rw[<-eR];have hdr:=cR e0.r ho.r0 ho.r1;have hds:=cR e0.s ho.s0 ho.s1;have htt:(gb e0).size<=3000000000:=by have:=iz ho;omega
 have C1:=λw hT=>ic e0 w ho hp hb hT
 have C2:=λw hT=>fg e0.r w ho.r0 ho.r1 hT
 have C3:=λw hT=>fg e0.s w ho.s0 ho.s1 hT
 obtain⟨dr,edr⟩:=x_ (dec e0.r)
 obtain⟨ds,eds⟩:=x_ (dec e0.s)
 obtain⟨tt,ett⟩:=x_ (gb e0)
 rw[<-edr]at hdr C2;rw[<-eds]at hds C3;rw[<-ett]at htt C1;obtain⟨cs,ecs⟩:=x_ (aK e0)
 have hbk:=ay.new W cs 42;have hbV:Below W.heap.size W (W.alloc (.cells cs.toArray 42)):=(Below.refl _ _).alloc (aL _) _;have hTV:=hT.alloc (.cells cs.toArray 42);obtain⟨V,eV⟩:=x_ (W.alloc (.cells cs.toArray 42))
 rw[<-eV]at hbk hbV hTV;have HQ:Hid (∀w',Below V.heap.size V w'->NW w' W.heap.size e0):=h_ λw' h=>NW.of (T:=42) (by rw[<-ecs];exact hbk.below h hbk.lt)
 have HM:Hid (∀w',Below V.heap.size V w'->w'.rangeAt W.heap.size 0 cs):=h_ λw' h=>rg_of (hbk.below h hbk.lt)
 have HT:Hid (∀w',Below V.heap.size V w'->cB w'):=h_ λw' h=>hTV.below h (aL _)
 have HI:=h_ (cE cs (by rw[ecs];rfl));have FIN:Hid (∀w',Below V.heap.size V w'->R (.returned (.string (dr++⟨#[32]⟩++ds++⟨#[32]⟩++tt))) w'):=h_ λw' h=>by
  rw[eR,edr,eds,ett];exact⟨rfl,hbV.trans (h.mono hbV.size)⟩
 have EV:Hid (W.alloc (.cells cs.toArray 42)=V):=h_ eV.symm;rw[<-ecs]at C1⊢;have H1:=h_ C1;have H2:=h_ C2;have H3:=h_ C3;have z1: ¬9223372036854775807<dr.size+1:=by omega
 have z2: ¬9223372036854775807<dr.size+1+ds.size:=by omega
 have z3: ¬9223372036854775807<dr.size+1+ds.size+1:=by omega
 have z4: ¬9223372036854775807<dr.size+1+ds.size+1+tt.size:=by omega
 clear eR ho hp hb hT hdr hds htt C1 C2 C3 edr eds ett ecs hbk hbV hTV eV;go_enter Tryz.func50,Tryz.ntmps50;go_wp2_with (simp only[EV.out])
 refine Free.ai 14 [(3, .det (.string dr)),(8, .det (.string ds)),(12, .det (.string tt))] (λw'=>Below V.heap.size V w') (by kernel_rfl) (by kernel_rfl) (Free.aW (λj mk r hf=>by simp only[Free.find]at hf;repeat' (first|cases hf|split at hf))) (Below.refl _ _).drew (λ_ _ h g=>h.trans (Below.mono g h.size)) ?_;simp only[eJ,dT];iterate 14 (first|(apply Free.aC (Free.wq rfl) rfl;(intro w' hB hA;refine Free.au (f:=59) (args:= #[.int .i64 e0.r]) (by clear hB hA;go_simp<;>rfl) ?_;refine(H2.out w' (HT.out w' hB)).mono ?_;rintro e w3 ⟨rfl,hb3⟩;exact⟨_,rfl,hb3,rfl⟩);simp only[Pt])|(apply Free.aC (Free.wq rfl) rfl;(intro w' hB hA;refine Free.au (f:=59) (args:= #[.int .i64 e0.s]) (by clear hB hA;go_simp<;>rfl) ?_;refine(H3.out w' (HT.out w' hB)).mono ?_;rintro e w3 ⟨rfl,hb3⟩;exact⟨_,rfl,hb3,rfl⟩);simp only[Pt])|(apply Free.ae (Free.wq rfl) rfl;(intro w' hB hA;exact Hk.aU 42 (.tmp 1) rfl W.heap.size 0 rfl cs _ (HM.out w' hB) Tryz.underlying42 rfl HI.out);simp only[Pt])|(apply Free.aC (Free.wq rfl) rfl;(intro w' hB hA;refine Free.au (f:=16) (args:= #[.agg cs.toArray]) (by clear hB hA;go_simp<;>rfl) ?_;refine(H1.out w' (HT.out w' hB)).mono ?_;rintro e w3 ⟨rfl,hb3⟩;exact⟨_,rfl,hb3,rfl⟩);simp only[Pt])|(apply Free.ae (Free.wq rfl) rfl;(intro w' hB hA;cases HQ.out w' hB;clear hA hB;go_light;go_simp<;>rfl);(try simp only[Pt])))
 apply Free.ax;intro wz hz _ _;simp only[fm,fo];have G:=h_ (FIN.out wz hz);clear hz;go_wp2_with fail;exact G.out
theorem ry(x y:Int):decide (x<=y)=false\/decide (x<=y)=true:=by cases decide (x<=y)<;>simp
theorem LW(x y:Int):decide (x<y)=false\/decide (x<y)=true:=by cases decide (x<y)<;>simp
set_option maxHeartbeats 1000000 in
theorem tu(o:Lo)(s:HS)(e0:aV)(W:World)(h:HR W o s):
  Calls Tryz.prog 49 #[.pointer (some ⟨o.hb,0,none⟩), .agg (aK e0).toArray] W λe w'=>e= .returned (.bool (dj s.aj e0))/\Below W.heap.size W w':=by
 obtain⟨R,eR⟩:=x_ (λe w'=>e= .returned (.bool (dj s.aj e0))/\Below W.heap.size W w':Ending->World->Prop)
 rw[<-eR];obtain⟨hb,jb,mb,A,c⟩:=o;obtain⟨cs,ecs⟩:=x_ (aK e0)
 have hbk:=ay.new W cs 42;have hbV:Below W.heap.size W (W.alloc (.cells cs.toArray 42)):=(Below.refl _ _).alloc (aL _) _;have k0:=(h.bg.below hbV h.bg.lt).ag 0 _ rfl;obtain⟨V,eV⟩:=x_ (W.alloc (.cells cs.toArray 42))
 rw[<-eV]at hbk hbV k0;have q:=NW.of (e:=e0) (T:=42) (by rw[<-ecs];exact hbk);obtain⟨q0,q1,q2,q5,q6⟩:=q;have FIN:Hid (∀w' v,v=dj s.aj e0->Below V.heap.size V w'->R (.returned (.bool v)) w'):=h_ λw' v hv h=>by rw[eR,hv];exact⟨rfl,hbV.trans (h.mono hbV.size)⟩
 have EV:Hid (W.alloc (.cells cs.toArray 42)=V):=h_ eV.symm;rw[<-ecs];clear eR h ecs hbk hbV eV;go_enter Tryz.func49,Tryz.ntmps49;go_wp2_with (simp only[EV.out])
 clear EV;rcases ry 0 e0.house with p1|p1;rotate_left;rcases LW e0.house s.aj with p2|p2;rotate_left;rcases ry 0 e0.seq with p3|p3;rotate_left;rcases LW e0.seq 4000 with p4|p4;rotate_left;rcases ry 0 e0.day with p5|p5;rotate_left;rcases ry e0.day 2000 with p6|p6;all_goals
  go_quiet (fail)
  go_wp2
  exact FIN.out _ _ (by unfold dj;simp[*]) (Go.Rf.gj _ _)
def dE(s:HS)(x:ei):Bool:=decide (1<=x.ref)&&(decide (x.ref<=1000000)&&(decide (0<=x.act)&&(decide (x.act<s.bQ)&&(decide (0<=x.low)&&(decide (x.low<=x.high)&&(decide (x.high<s.days)&&(decide (0<=x.cJ)&&decide (x.cJ<=s.days))))))))
set_option maxHeartbeats 2000000 in
theorem vM(o:Lo)(s:HS)(x:ei)(W:World)(h:HR W o s):
  Calls Tryz.prog 45 #[.pointer (some ⟨o.hb,0,none⟩), .agg (bU x).toArray] W λe w'=>e= .returned (.bool (dE s x))/\Below W.heap.size W w':=by
 obtain⟨R,eR⟩:=x_ (λe w'=>e= .returned (.bool (dE s x))/\Below W.heap.size W w':Ending->World->Prop)
 rw[<-eR];obtain⟨hb,jb,mb,A,c⟩:=o;obtain⟨cs,ecs⟩:=x_ (bU x)
 have hbk:=ay.new W cs 29;have hbV:Below W.heap.size W (W.alloc (.cells cs.toArray 29)):=(Below.refl _ _).alloc (aL _) _;have k1:=(h.bg.below hbV h.bg.lt).ag 1 _ rfl;have k2:=(h.bg.below hbV h.bg.lt).ag 2 _ rfl;obtain⟨V,eV⟩:=x_ (W.alloc (.cells cs.toArray 29))
 rw[<-eV]at hbk hbV k1 k2;have q0:=hbk.ag 0 _ (by rw[ecs];rfl);have q1:=hbk.ag 1 _ (by rw[ecs];rfl);have q2:=hbk.ag 2 _ (by rw[ecs];rfl);have q3:=hbk.ag 3 _ (by rw[ecs];rfl);have q4:=hbk.ag 4 _ (by rw[ecs];rfl);have FIN:Hid (∀w' v,v=dE s x->Below V.heap.size V w'->R (.returned (.bool v)) w'):=h_ λw' v hv h=>by rw[eR,hv];exact⟨rfl,hbV.trans (h.mono hbV.size)⟩
 have EV:Hid (W.alloc (.cells cs.toArray 29)=V):=h_ eV.symm;rw[<-ecs];clear eR h ecs hbk hbV eV;go_enter Tryz.func45,Tryz.ntmps45;go_wp2_with (simp only[EV.out])
 clear EV;rcases ry 1 x.ref with p1|p1;rotate_left;rcases ry x.ref 1000000 with p2|p2;rotate_left;rcases ry 0 x.act with p3|p3;rotate_left;rcases LW x.act s.bQ with p4|p4;rotate_left;rcases ry 0 x.low with p5|p5;rotate_left;rcases ry x.low x.high with p6|p6;rotate_left;rcases LW x.high s.days with p7|p7;rotate_left;rcases ry 0 x.cJ with p8|p8;rotate_left;rcases ry x.cJ s.days with p9|p9;all_goals
  go_quiet (fail)
  go_wp2
  exact FIN.out _ _ (by unfold dE;simp[*]) (Go.Rf.gj _ _)
structure TZ (w:World) (b hb:Nat) (A:Option Addr) (n c:Nat) (e:aV):Prop where
 en:NW w b e
 k5:w.cell? ⟨hb,5,none⟩=some (.slice A n c)
set_option maxHeartbeats 2000000 in
theorem qN(o:Lo)(s:HS)(e0:aV)(text:ByteArray)(W:World)(h:HR W o s)(hn:(s.pubs.length:Int)=s.aj)(ho:e0.Ok)(hp:e0.prev.size<=1000000000)(hbd:e0.body.size<=1000000000)(hT:cB W):
  Calls Tryz.prog 51 #[.pointer (some ⟨o.hb,0,none⟩), .agg (aK e0).toArray, .string text] W λe w'=>e= .returned (.bool (gB s.aj s.pubs e0 text))/\Below W.heap.size W w':=by
 obtain⟨R,eR⟩:=x_ (λe w'=>e= .returned (.bool (gB s.aj s.pubs e0 text))/\Below W.heap.size W w':Ending->World->Prop)
 rw[<-eR];have htt:(gb e0).size<=3000000000:=by have:=iz ho;omega
 have C1:=λw hT=>ic e0 w ho hp hbd hT
 obtain⟨tt,ett⟩:=x_ (gb e0)
 obtain⟨vB,evB⟩:=x_ (nM e0 (s.pubs.getD e0.house.toNat 0))
 have C2:=λw hT=>xt (s.pubs.getD e0.house.toNat 0) tt e0.r e0.s w (by rw[ett];omega) hT
 have hvB:mu (s.pubs.getD e0.house.toNat 0) tt e0.r e0.s=vB:=by rw[evB,ett];rfl
 rw[hvB]at C2;rw[<-ett]at C1;have CP0:=λw (hw:HR w o s)=>tu o s e0 w hw
 have hpl:dj s.aj e0=true->∃j:Nat,e0.house=(j:Int)/\j<s.pubs.length:=λq=>by
  unfold dj at q;simp only[ua,uD]at q;exact⟨e0.house.toNat,by omega,by omega⟩
 obtain⟨PB,ePB⟩:=x_ (dj s.aj e0)
 have hgen:gB s.aj s.pubs e0 text=(PB&&(decide ((text.size:Int)<=2000)&&vB)):=by rw[ePB,evB];rfl
 rw[<-ePB]at CP0 hpl;obtain⟨cs,ecs⟩:=x_ (aK e0)
 have hbk:=ay.new W cs 42;have hbV:Below W.heap.size W (W.alloc (.cells cs.toArray 42)):=(Below.refl _ _).alloc (aL _) _;have hTV:=hT.alloc (.cells cs.toArray 42);have hV:=h.below hbV;obtain⟨hb,jb,mb,A,c⟩:=o;obtain⟨V,eV⟩:=x_ (W.alloc (.cells cs.toArray 42))
 rw[<-eV]at hbk hbV hTV hV;have HQ:Hid (∀w',Below V.heap.size V w'->TZ w' W.heap.size hb A s.pubs.length c e0):=h_ λw' h=>⟨NW.of (T:=42) (by rw[<-ecs];exact hbk.below h hbk.lt),(hV.below h).bg.ag 5 _ rfl⟩
 have HM:Hid (∀w',Below V.heap.size V w'->w'.rangeAt W.heap.size 0 cs):=h_ λw' h=>rg_of (hbk.below h hbk.lt)
 have HT:Hid (∀w',Below V.heap.size V w'->cB w'):=h_ λw' h=>hTV.below h (aL _)
 have HI:=h_ (cE cs (by rw[ecs];rfl));have FIN:Hid (∀w' v,v=(PB&&(decide ((text.size:Int)<=2000)&&vB))->Below V.heap.size V w'->R (.returned (.bool v)) w'):=h_ λw' v hv h=>by
  rw[eR,hgen,hv];exact⟨rfl,hbV.trans (h.mono hbV.size)⟩
 have EV:Hid (W.alloc (.cells cs.toArray 42)=V):=h_ eV.symm;have CP:=h_ (λw' (h:Below V.heap.size V w')=>CP0 w' (hV.below h));rw[<-ecs]at C1 CP⊢;have H1:=h_ C1;have H2:=h_ C2;have HP:=h_ (λw' (h:Below V.heap.size V w')=>(hV.below h).pubs);have HPL:=h_ hpl;clear eR ho hp hbd hT htt C1 C2 CP0 ett evB hvB ePB hgen ecs hbk hbV hTV hV eV h hn hpl;cases PB with
 |false=>
  have HC:Hid (∀w',Below V.heap.size V w'->True):=h_ λ_ _=>trivial
  go_enter Tryz.func51,Tryz.ntmps51;go_wp2_with (simp only[EV.out])
  refine Free.ai 23 [(2, .det (.bool false)),(18, .det (.string tt)),(21, .det (.bool vB))] (λw'=>Below V.heap.size V w') (by kernel_rfl) (by kernel_rfl) (Free.aW (λj mk r hf=>by simp only[Free.find]at hf;repeat' (first|cases hf|split at hf))) (Below.refl _ _).drew (λ_ _ h g=>h.trans (Below.mono g h.size)) ?_;simp only[eJ,dT];iterate 23 (first|(apply Free.dw (by exact fk rfl rfl rfl rfl);simp only[Pt])|(apply Free.ae (Free.wq rfl) rfl;(intro w' hB hA;exact Hk.aU 42 (.tmp 4) rfl W.heap.size 0 rfl cs _ (HM.out w' hB) Tryz.underlying42 rfl HI.out);simp only[Pt])|(apply Free.aC (Free.wq rfl) rfl;(intro w' hB hA;refine Free.au (f:=49) (args:= #[.pointer (some ⟨hb,0,none⟩), .agg cs.toArray]) (by clear hB hA;go_simp<;>rfl) ?_;refine(CP.out w' hB).mono ?_;rintro e w3 ⟨rfl,hb3⟩;exact⟨_,rfl,hb3,rfl⟩);simp only[Pt])|(apply Free.ae (Free.wq rfl) rfl;(intro w' hB hA;obtain⟨⟨q0,q1,q2,q5,q6⟩,k5⟩:=HQ.out w' hB;have ct:=HC.out w' hB;clear hA hB;go_light;go_simp<;>rfl);(try simp only[Pt])))
  apply Free.ax;intro wz hz _ _;simp only[fm,fo];have G:=h_ (FIN.out wz _ (by rfl) hz);clear hz;go_wp2_with fail;exact G.out
 |true=>
  rcases ry (text.size:Int) 2000 with t1|t1
  ·have HC:Hid (∀w',Below V.heap.size V w'->True):=h_ λ_ _=>trivial
   go_enter Tryz.func51,Tryz.ntmps51;go_wp2_with (simp only[EV.out])
   refine Free.ai 23 [(2, .det (.bool true)),(18, .det (.string tt)),(21, .det (.bool vB))] (λw'=>Below V.heap.size V w') (by kernel_rfl) (by kernel_rfl) (Free.aW (λj mk r hf=>by simp only[Free.find]at hf;repeat' (first|cases hf|split at hf))) (Below.refl _ _).drew (λ_ _ h g=>h.trans (Below.mono g h.size)) ?_;simp only[eJ,dT];iterate 23 (first|(apply Free.dw (by exact fk rfl rfl rfl rfl);simp only[Pt])|(apply Free.ae (Free.wq rfl) rfl;(intro w' hB hA;exact Hk.aU 42 (.tmp 4) rfl W.heap.size 0 rfl cs _ (HM.out w' hB) Tryz.underlying42 rfl HI.out);simp only[Pt])|(apply Free.aC (Free.wq rfl) rfl;(intro w' hB hA;refine Free.au (f:=49) (args:= #[.pointer (some ⟨hb,0,none⟩), .agg cs.toArray]) (by clear hB hA;go_simp<;>rfl) ?_;refine(CP.out w' hB).mono ?_;rintro e w3 ⟨rfl,hb3⟩;exact⟨_,rfl,hb3,rfl⟩);simp only[Pt])|(apply Free.ae (Free.wq rfl) rfl;(intro w' hB hA;obtain⟨⟨q0,q1,q2,q5,q6⟩,k5⟩:=HQ.out w' hB;have ct:=HC.out w' hB;clear hA hB;go_light;go_simp<;>rfl);(try simp only[Pt])))
   apply Free.ax;intro wz hz _ _;simp only[fm,fo];have G:=h_ (FIN.out wz _ (by rw[t1]) hz);clear hz;go_wp2_with fail;exact G.out
  ·obtain⟨j,ej,hj⟩:=HPL.out rfl;have hji:(j:Int)<(s.pubs.length:Int):=by omega
   have hj0:(0:Int)<=(j:Int):=by omega
   obtain⟨pv,epv⟩:∃pv,s.pubs[j]? =some pv:=⟨_,eH hj⟩
   obtain⟨ab,ao,rfl⟩:=cG (HP.out V (Below.refl _ _)) (by intro e;rw[e]at hj;simp at hj);have HC:Hid (∀w',Below V.heap.size V w'->w'.cell? ⟨ab,ao+j,none⟩=some (.int .i64 pv)):=h_ λw' h=>fi (HP.out w' h) epv
   have hpv:s.pubs.getD e0.house.toNat 0=pv:=by rw[ej,tZ,BX,epv];rfl
   rw[hpv]at H2;obtain⟨⟨q0',_,_,_,_⟩,_⟩:=HQ.out V (Below.refl _ _);obtain⟨xh,eh⟩:=x_ e0.house
   have HQ2:Hid (∀w',Below V.heap.size V w'->w'.cell? ⟨W.heap.size,0,none⟩=some (.int .i64 (j:Int))/\w'.cell? ⟨W.heap.size,5,none⟩=some (.int .i64 e0.r)/\w'.cell? ⟨W.heap.size,6,none⟩=some (.int .i64 e0.s)/\w'.cell? ⟨hb,5,none⟩=some (.slice (some ⟨ab,ao,none⟩) s.pubs.length c)):=h_ λw' h=>by
    obtain⟨⟨a0,a1,a2,a5,a6⟩,k5⟩:=HQ.out w' h;exact⟨by rw[<-ej];exact a0,a5,a6,k5⟩
   clear ej hj epv hpv q0' HQ HP HPL eh;go_enter Tryz.func51,Tryz.ntmps51;go_wp2_with (simp only[EV.out])
   refine Free.ai 23 [(2, .det (.bool true)),(18, .det (.string tt)),(21, .det (.bool vB))] (λw'=>Below V.heap.size V w') (by kernel_rfl) (by kernel_rfl) (Free.aW (λj mk r hf=>by simp only[Free.find]at hf;repeat' (first|cases hf|split at hf))) (Below.refl _ _).drew (λ_ _ h g=>h.trans (Below.mono g h.size)) ?_;simp only[eJ,dT];iterate 23 (first|(apply Free.ae (Free.wq rfl) rfl;(intro w' hB hA;exact Hk.aU 42 (.tmp 4) rfl W.heap.size 0 rfl cs _ (HM.out w' hB) Tryz.underlying42 rfl HI.out);simp only[Pt])|(apply Free.aC (Free.wq rfl) rfl;(intro w' hB hA;refine Free.au (f:=49) (args:= #[.pointer (some ⟨hb,0,none⟩), .agg cs.toArray]) (by clear hB hA;go_simp<;>rfl) ?_;refine(CP.out w' hB).mono ?_;rintro e w3 ⟨rfl,hb3⟩;exact⟨_,rfl,hb3,rfl⟩);simp only[Pt])|(apply Free.aC (Free.wq rfl) rfl;(intro w' hB hA;refine Free.au (f:=16) (args:= #[.agg cs.toArray]) (by clear hB hA;go_simp<;>rfl) ?_;refine(H1.out w' (HT.out w' hB)).mono ?_;rintro e w3 ⟨rfl,hb3⟩;exact⟨_,rfl,hb3,rfl⟩);simp only[Pt])|(apply Free.aC (Free.wq rfl) rfl;(intro w' hB hA;refine Free.au (f:=15) (args:= #[.int .i64 pv, .string tt, .agg #[.int .i64 e0.r, .int .i64 e0.s]]) (by clear hB hA;go_simp<;>rfl) ?_;refine(H2.out w' (HT.out w' hB)).mono ?_;rintro e w3 ⟨rfl,hb3⟩;exact⟨_,rfl,hb3,rfl⟩);simp only[Pt])|(apply Free.ae (Free.wq rfl) rfl;(intro w' hB hA;obtain⟨q0,q5,q6,k5⟩:=HQ2.out w' hB;have ct:=HC.out w' hB;clear hA hB;go_light;go_simp<;>rfl);(try simp only[Pt])))
   apply Free.ax;intro wz hz _ _;simp only[fm,fo];have G:=h_ (FIN.out wz _ (by rw[t1]) hz);clear hz;go_wp2_with fail;exact G.out
end Go.Proofs.YtkmbmfengcdmoaaGreatDoor

