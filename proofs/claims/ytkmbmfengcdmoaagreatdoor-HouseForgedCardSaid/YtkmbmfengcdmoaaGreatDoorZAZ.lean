/- A journal behind a base world, with a row of the caller beside it. No condition. -/
import Derived.Test.YtkmbmfengcdmoaaGreatDoorZAY
import Derived.Test.YtkmbmfengcdmoaaGreatDoorZAX
set_option maxRecDepth 100000
set_option linter.all false
namespace Go.Proofs.YtkmbmfengcdmoaaGreatDoor
open Go.RowKit Go.ay Go.Jn Go.Dk Go.Mp Go.Rf Go.Shelf Go.Apl
def rY(g o:Nat)(E:List Value)(sz:Nat)(w w':World):Prop:=
 aJ (λk=>k=g) w w'/\∀cc:Array Value,w.heap[g]? =some (.cells cc 9 (0,0))->cc.size=sz->w'.heap[g]? =some (.cells cc 9 (0,0))\/w'.heap[g]? =some (.cells (Apk.nU cc o E) 9 (0,0))
theorem rY.refl(g o:Nat)(E:List Value)(sz:Nat)(w:World):rY g o E sz w w:=⟨aJ.refl _ _,λ_ h _=> .inl h⟩
theorem rY.trans{g o:Nat}{E:List Value}{sz:Nat}(hf:∀cc:Array Value,cc.size=sz->o+E.length<=cc.size)(a b c:World)(h:rY g o E sz a b)(k:rY g o E sz b c):rY g o E sz a c:=
 ⟨h.1.trans k.1 (λ_ _ f=>f),λcc hc hs=>by
  rcases h.2 cc hc hs with h1|h1
  ·exact k.2 cc h1 hs
  ·rcases k.2 _ h1 (by rw[Apk.fH _ _ _ (hf cc hs)];exact hs)with h2|h2
   ·exact .inr h2
   ·exact .inr (by rw[h2,Apk.rT _ _ _ (hf cc hs)])⟩
theorem F8{g o:Nat}{E:List Value}{sz:Nat}{w w':World}(h:Below w.heap.size w w'):rY g o E sz w w':=
 ⟨aJ.aY h,λ_ hc _=> .inl ((h.block g (iS.1 hc).1).trans hc)⟩
theorem JO{g o:Nat}{E:List Value}{sz:Nat}{w:World}{cc:Array Value}(hc:w.heap[g]? =some (.cells cc 9 (0,0))):rY g o E sz w (w.setRow g (Apk.nU cc o E)):=
 ⟨(aJ.refl (λk=>k=g) w).setRow (λ_=>rfl) _,λc2 h2 _=>by rw[hc]at h2;cases h2;exact .inr (setRow_heap w g cc _ 9 _ hc)⟩
theorem JT(l:List (List UInt8))(x:List UInt8):((l++ [x]).map tx).flatMap lR=(l.map tx).flatMap lR++ [.string (tx x)]:=by rw[uE,DU];rfl
def uF(w:World)(jb b bs bm n:Nat)(pv rv:Value)(r:JS×Int)(e:Ending)(w':World):Prop:=
 e= .returned (.int .i64 r.2)/\∃bm' pv' rv',Cc w' jb b bs bm' pv' rv' n r.1/\aJ (pD jb b bs bm pv rv) w w'/\(bm'=bm\/w.heap.size<=bm')/\(∀k,pv'.ownBlock=some k->pv.ownBlock=some k\/w.heap.size<=k)/\(∀k,rv'.ownBlock=some k->rv.ownBlock=some k\/w.heap.size<=k)
section
variable {w w':World} {jb b bs bm n:Nat} {pv rv:Value} {s:JS}
theorem uF.same(h:Cc w jb b bs bm pv rv n s)(hb:Below w.heap.size w w')(c:Int):uF w jb b bs bm n pv rv (s,c) (.returned (.int .i64 c)) w':=
 ⟨rfl,bm,pv,rv,h.below hb,aJ.aY hb, .inl rfl,λ_ h=> .inl h,λ_ h=> .inl h⟩
end
set_option maxHeartbeats 400000 in
theorem Ab{w0 w:World}{jb b bs bm n:Nat}{pv rv:Value}{s:JS}(body:ByteArray)(h:Cc w jb b bs bm pv rv n s)(hpend:s.d.aF.length<=900000)(hrec:s.bW.length<=1000000)(hbody:body.size<=9223372036854775807)(hE:En w0 w b bs bm pv):
  Calls Tryz.prog 84 #[.pointer (some ⟨jb,0,none⟩), .string body] w (uF w jb b bs bm n pv rv (s.append n body.data.toList)):=by
 obtain⟨R,eR⟩:=x_ (uF w jb b bs bm n pv rv (s.append n body.data.toList))
 rw[<-eR];have hbl:body.data.toList.length=body.size:=by simp
 have FS:Hid (∀c w',s.append n body.data.toList=(s,c)->Below w.heap.size w w'->R (.returned (.int .i64 c)) w'):=λc w' he hb=>by rw[eR,he];exact uF.same h hb c
 have ER:=h_ eR;have H:=h_ h;have HBV:Hid (Below w.heap.size w (w.alloc (.cells #[.pointer (some ⟨jb,0,none⟩)] 101))):=(Below.refl _ w).alloc (aL _) _;have c7:=aO (h.bg.ag 7 _ rfl) HBV.out;clear eR;cases hbr:s.broken with
 |true=>
  have F:=h_ (FS.out 13 _ (by unfold JS.append;rw[if_pos hbr]) HBV.out);rw[hbr]at c7;clear FS h hbr;go_enter Tryz.func84,Tryz.ntmps84;go_wp2_with fail;(try go_ret);exact F.out
 |false=>
  rw[hbr]at c7;by_cases h2000:2000<body.size
  ·have t1:decide ((2000:Int)<(body.size:Int))=true:=dt (by omega);have F:=h_ (FS.out 3 _ (by unfold JS.append;rw[if_neg (by rw[hbr];decide),if_pos (by omega)]) HBV.out);clear FS h hbr;go_enter Tryz.func84,Tryz.ntmps84;go_wp2_with fail;(try go_ret);exact F.out
  ·have t1:decide ((2000:Int)<(body.size:Int))=false:=dy (by omega);have hfl:=kF (b:=body.data.toList) (by omega);have EA:Hid (s.append n body.data.toList=if 32*((n-2) / 2)<s.v.2.2+(4+body.size)\/s.v.1=999999999 then(s,19)else
     if(cy n s.a s.v.1 s.v.2.1 s.v.2.2 (bR body.data.toList) s.d).2=0 then
      ({d:=(cy n s.a s.v.1 s.v.2.1 s.v.2.2 (bR body.data.toList) s.d).1,v:=(s.v.1+1,s.v.2.1,s.v.2.2+(bR body.data.toList).length),a:=1-s.a,bW:=s.bW++ [body.data.toList],broken:=false},0)
     else({s with d:=(cy n s.a s.v.1 s.v.2.1 s.v.2.2 (bR body.data.toList) s.d).1,broken:=true},(cy n s.a s.v.1 s.v.2.1 s.v.2.2 (bR body.data.toList) s.d).2)):=by
    show _=_;unfold JS.append;rw[if_neg (by rw[hbr];decide),if_neg (by omega),hbl]
   have FR:=h_ (E5 body (w.alloc (.cells #[.pointer (some ⟨jb,0,none⟩)] 101)) (by omega) (hE.grow HBV.out).h);have htxl:(tx (bR body.data.toList)).size=4+body.size:=by rw[ft,hfl,hbl]
   obtain⟨size,es⟩:=x_ ((n-2) / 2)
   have hn2:=h.ly.ok.n2;have hlen:=h.len;have hnum:=h.num;rw[<-es]at EA hlen;have hj4:=h.bg;rw[<-es]at hj4;have HJ:=h_ hj4;have HRM:=h_ (fun(w':World) (hb:Below w.heap.size w w')=>zn (w:=w') (jb:=jb) size ((hj4.below hb hj4.lt).ag 4 _ rfl) (by omega));obtain⟨room,er⟩:=x_ (32*size)
   rw[<-er]at EA hlen HRM;have hroomb:room<=1000000:=by omega
   obtain⟨x,ex⟩:=x_ (tx (bR body.data.toList))
   rw[<-ex]at FR htxl;obtain⟨sd,⟨num,hf,l⟩,sa,srec,sbr⟩:=s;dsimp only at hbr hlen hnum EA FS c7 hpend hrec;subst hbr;have HE:=h_ hE;have EX:=h_ ex;have ERM:=h_ er;have ESZ:=h_ es;clear h hfl hj4 er ex es hE;go_enter Tryz.func84,Tryz.ntmps84;go_wp2_with fail;refine FR.out.mono ?_;rintro e w1 ⟨rfl,hb1⟩;have HB1:=h_ (HBV.out.trans (hb1.mono HBV.out.size));have kJ1:Hid (ay w1 w.heap.size [.pointer (some ⟨jb,0,none⟩)] 101):=(ay.new w _ _).below hb1 (by simp);have S1:Hid (w.heap.size+1<=w1.heap.size):=by have:=hb1.size;show _<=_;simpa using this
   clear hb1 FR;go_wp2_with fail;obtain⟨V,eV⟩:=x_ (w1.alloc (.cells #[.string x] 9))
   have HBW:Hid (Below w1.heap.size w1 V):=by rw[eV];exact(Below.refl _ w1).alloc (aL _) _
   have kJ:Hid (ay V w.heap.size [.pointer (some ⟨jb,0,none⟩)] 101):=by rw[eV];exact kJ1.out.alloc _
   have kX:Hid (ay V w1.heap.size [.string x] 9):=by rw[eV];exact ay.new w1 _ _
   have HBX:=h_ (HB1.out.trans (HBW.out.mono HB1.out.size));have VS:Hid (V.heap.size=w1.heap.size+1):=by show _=_;rw[eV];simp
   rw[<-eV];clear eV c7;have HJV:=h_ (HJ.out.below HBX.out HJ.out.lt);have g0:=kJ.out.ag 0 _ rfl;have g1:=kX.out.ag 0 _ rfl;have j0:=HJV.out.ag 0 _ rfl;have j2:=HJV.out.ag 2 _ rfl;dsimp only at j0 j2;have hxb:x.size<=3000:=by omega
   have HTX:=h_ htxl;have HRM2:Hid (∀w',Below w.heap.size w w'->Calls Tryz.prog 129 #[.pointer (some ⟨jb,0,none⟩)] w' λe w2=>e= .returned (.int .i64 (room:Int))/\Below w'.heap.size w' w2):=λw' hb=>(HRM.out w' hb).mono λe w2 h=>⟨h.1,by rw[h.2];exact Below.refl _ _⟩
   obtain⟨ls,els⟩:=x_ (l+x.size)
   have wl:IntKind.i64.wrap ((l:Int)+(x.size:Int))=(ls:Int):=by rw[IntWalk.i64_left,IntWalk.wrap64_in _ ⟨by omega,by omega⟩];omega
   have ELS:=h_ els;clear htxl els;by_cases hA:room<ls
   ·have tA:decide ((room:Int)<(ls:Int))=true:=dt (by omega);have F:=h_ (λw' hb=>FS.out 19 w' (by rw[EA.out,if_pos (.inl (by rw[<-HTX.out, <-ELS.out];exact hA))]) hb);clear FS EA;refine Free.ai 19 [(9, .det (.int .i64 (room:Int)))] (λy=>Below V.heap.size V y/\y.cell? ⟨w.heap.size,0,none⟩=some (.pointer (some ⟨jb,0,none⟩))/\y.cell? ⟨w1.heap.size,0,none⟩=some (.string x)/\y.cell? ⟨jb,0,none⟩=some (.int .i64 (num:Int))/\y.cell? ⟨jb,2,none⟩=some (.int .i64 (l:Int))) (by kernel_rfl) (by kernel_rfl) (Free.aW (λj mk r hf=>by simp only[Free.find]at hf;repeat' (first|cases hf|split at hf))) ⟨(Below.refl _ _).drew,g0,g1,j0,j2⟩
     (λ_ _ h g=>⟨h.1.trans (Below.mono g h.1.size),aO h.2.1 g,aO h.2.2.1 g,aO h.2.2.2.1 g,aO h.2.2.2.2 g⟩) ?_
    simp only[eJ,dT];iterate 19 (first|(apply Free.dw (by exact fk rfl rfl rfl rfl);simp only[Pt])|(apply Free.aC (Free.wq rfl) rfl;(intro w' hB hA;refine Free.au (f:=129) (args:= #[.pointer (some ⟨jb,0,none⟩)]) (by clear hB hA;go_simp<;>rfl) ?_;refine(HRM2.out w' (HBX.out.trans (hB.1.mono HBX.out.size))).mono ?_;rintro e w3 ⟨rfl,hb3⟩;exact⟨_,rfl,hb3,rfl⟩);simp only[Pt])|(apply Free.ae (Free.wq rfl) rfl;(intro w' hB hA;obtain⟨qB,q0,q1,q2,q3⟩:=hB;clear hA qB;go_light;go_simp<;>rfl);(try simp only[Pt])))
    apply Free.ax;intro w2 hB2 _ _;simp only[fm,fo];have G:=h_ (F.out _ (HBX.out.trans (hB2.1.mono HBX.out.size)));clear hB2 g0 g1 j0 j2;go_wp2_with fail;(try go_ret);exact G.out
   ·have tA:decide ((room:Int)<(ls:Int))=false:=dy (by omega);by_cases hN:num=999999999
    ·have tN:((num:Int)==999999999)=true:=by simp;omega
     have F:=h_ (λw' hb=>FS.out 19 w' (by rw[EA.out,if_pos (.inr hN)]) hb);clear FS EA hN;refine Free.ai 19 [(9, .det (.int .i64 (room:Int)))] (λy=>Below V.heap.size V y/\y.cell? ⟨w.heap.size,0,none⟩=some (.pointer (some ⟨jb,0,none⟩))/\y.cell? ⟨w1.heap.size,0,none⟩=some (.string x)/\y.cell? ⟨jb,0,none⟩=some (.int .i64 (num:Int))/\y.cell? ⟨jb,2,none⟩=some (.int .i64 (l:Int))) (by kernel_rfl) (by kernel_rfl) (Free.aW (λj mk r hf=>by simp only[Free.find]at hf;repeat' (first|cases hf|split at hf))) ⟨(Below.refl _ _).drew,g0,g1,j0,j2⟩
      (λ_ _ h g=>⟨h.1.trans (Below.mono g h.1.size),aO h.2.1 g,aO h.2.2.1 g,aO h.2.2.2.1 g,aO h.2.2.2.2 g⟩) ?_
     simp only[eJ,dT];iterate 19 (first|(apply Free.aC (Free.wq rfl) rfl;(intro w' hB hA;refine Free.au (f:=129) (args:= #[.pointer (some ⟨jb,0,none⟩)]) (by clear hB hA;go_simp<;>rfl) ?_;refine(HRM2.out w' (HBX.out.trans (hB.1.mono HBX.out.size))).mono ?_;rintro e w3 ⟨rfl,hb3⟩;exact⟨_,rfl,hb3,rfl⟩);simp only[Pt])|(apply Free.ae (Free.wq rfl) rfl;(intro w' hB hA;obtain⟨qB,q0,q1,q2,q3⟩:=hB;clear hA qB;go_light;go_simp<;>rfl);(try simp only[Pt])))
     apply Free.ax;intro w2 hB2 _ _;simp only[fm,fo];have G:=h_ (F.out _ (HBX.out.trans (hB2.1.mono HBX.out.size)));clear hB2 g0 g1 j0 j2;go_wp2_with fail;(try go_ret);exact G.out
    ·have tN:((num:Int)==999999999)=false:=by simp;omega
     refine Free.ai 19 [(9, .det (.int .i64 (room:Int)))] (λy=>Below V.heap.size V y/\y.cell? ⟨w.heap.size,0,none⟩=some (.pointer (some ⟨jb,0,none⟩))/\y.cell? ⟨w1.heap.size,0,none⟩=some (.string x)/\y.cell? ⟨jb,0,none⟩=some (.int .i64 (num:Int))/\y.cell? ⟨jb,2,none⟩=some (.int .i64 (l:Int))) (by kernel_rfl) (by kernel_rfl) (Free.aW (λj mk r hf=>by simp only[Free.find]at hf;repeat' (first|cases hf|split at hf))) ⟨(Below.refl _ _).drew,g0,g1,j0,j2⟩
      (λ_ _ h g=>⟨h.1.trans (Below.mono g h.1.size),aO h.2.1 g,aO h.2.2.1 g,aO h.2.2.2.1 g,aO h.2.2.2.2 g⟩) ?_
     simp only[eJ,dT];iterate 19 (first|(apply Free.aC (Free.wq rfl) rfl;(intro w' hB hA;refine Free.au (f:=129) (args:= #[.pointer (some ⟨jb,0,none⟩)]) (by clear hB hA;go_simp<;>rfl) ?_;refine(HRM2.out w' (HBX.out.trans (hB.1.mono HBX.out.size))).mono ?_;rintro e w3 ⟨rfl,hb3⟩;exact⟨_,rfl,hb3,rfl⟩);simp only[Pt])|(apply Free.ae (Free.wq rfl) rfl;(intro w' hB hA;obtain⟨qB,q0,q1,q2,q3⟩:=hB;clear hA qB;go_light;go_simp<;>rfl);(try simp only[Pt])))
     apply Free.ax;intro w2 hB2 _ _;simp only[fm,fo];have HB2:=h_ hB2.1;have g0:=(kJ.out.below hB2.1 kJ.out.lt).ag 0 _ rfl;clear hB2 g1 j0 j2;have hmf:∀(fn:Fn) (first cap:Array Value) (w:World),(Instr.makeFunc fn first cap).run Tryz.prog w= .ok (.func fn first cap) w:=λ_ _ _ _=>rfl
     go_wp2_with fail;have hroom':l+(bR body.data.toList).length<=32*((n-2) / 2):=by
      have h1:=EX.out;have h2:(bR body.data.toList).length=x.size:=by rw[h1,ft]
      rw[h2, <-ESZ.out, <-ERM.out]
      have:=ELS.out;omega
     have HBY:=h_ (HBX.out.trans (HB2.out.mono HBX.out.size));have hd2:=H.out.ly.below HBY.out;have hj2:=HJ.out.below HBY.out HJ.out.lt;rw[ESZ.out]at hj2;have hx2:=kX.out.below HB2.out kX.out.lt;rw[EX.out]at hx2;have TC:=h_ (Pk (g:=130) (cb:= #[.pointer (some ⟨w.heap.size,0,none⟩), .pointer (some ⟨w1.heap.size,0,none⟩)]) hd2 hj2 (enters_of Tryz.func130 (by kernel_rfl) rfl)
      (λW hb=>Hg (hd2.below hb) H.out.n4 (hj2.below hb hj2.lt) ((kJ.out.below HB2.out kJ.out.lt).below hb (by have:=kJ.out.lt;have:=HB2.out.size;omega)) (hx2.below hb hx2.lt) H.out.at_ H.out.hf hroom' (by omega) hpend ((HE.out.grow HBY.out).grow hb)))
     have EA2:=EA.out;rw[if_neg (λh=>h.elim (λh=>by have h1:=ELS.out;have h2:=HTX.out;omega) hN)]at EA2;obtain⟨r,er⟩:=x_ (cy n sa num hf l (bR body.data.toList) sd)
     rw[<-er]at EA2;have EA3:=h_ EA2;have TC:Hid (Calls Tryz.prog 102 #[.pointer (some ⟨jb,0,none⟩), .func (.func 130) #[] #[.pointer (some ⟨w.heap.size,0,none⟩), .pointer (some ⟨w1.heap.size,0,none⟩)]] w2 (z8 w2 jb b bs bm n sa ((n-2) / 2) hf (l+(bR body.data.toList).length) pv rv (num,hf,l) r)):=by rw[er];exact TC.out
     clear hroom' hd2 hj2 hx2 EA EA2 er FS hmf;refine TC.out.mono ?_;rintro e w3 ⟨rfl,⟨bm',pv',u1,u2,u3,u4⟩,hc⟩;have hjbw:jb<w.heap.size:=HJ.out.lt;have K3:Hid (aJ (λk=>k=jb\/Fp b bs bm pv k) w w3):=aJ.trans (F:=λk=>k=jb\/Fp b bs bm pv k) (aJ.aY HBY.out) u2 (λ_ _ f=>f);have U:Hid (aI w3 b bs bm' pv' r.1 n/\(bm'=bm\/w.heap.size<=bm')/\(∀k,pv'.ownBlock=some k->pv.ownBlock=some k\/w.heap.size<=k)):=by have:=HBY.out.size;exact⟨u1,u3.imp id (λh=>by omega),λk hk=>(u4 k hk).imp id (λh=>by omega)⟩
     have HRW:Hid (fY w3 0 rv srec):=H.out.row.bD λk hk=>K3.out.block k (World.ownsRow.lt H.out.row k hk).2 (λh=>h.elim (λe=>iM H.out.row H.out.bg (by decide) (e▸hk)) (qp H.out.ly H.out.row (by decide) (by decide) (by decide) hk))
     have K23:=h_ u2;clear u1 u2 u3 u4 TC;obtain⟨rd,c⟩:=r;dsimp only at hc;rcases hc with⟨z,hj3⟩|⟨z,hj3⟩
     ·subst z;have FINW:Hid (∀wz v',aJ (λk=>rv.ownBlock=some k) w3 wz->fY wz 0 v' (srec++ [body.data.toList])->(∀k,v'.ownBlock=some k->rv.ownBlock=some k\/w3.heap.size<=k)->R (.returned (.int .i64 0)) (wz.setCell ⟨jb,6,none⟩ v')):=λwz v' hk hr hf=>by
       have hjz:ay wz jb _ 189:=hj3.bG (hk.block jb hj3.lt (iM HRW.out hj3 (by decide)));have hdz:=U.out.1.bD hk (λk hf' e=>qp U.out.1 HRW.out (by decide) (by decide) (by decide) e hf');have ks:aJ (λk=>k=jb) wz (wz.setCell ⟨jb,6,none⟩ v'):=(aJ.refl (λk=>k=jb) wz).setCell (p:=⟨jb,6,none⟩) (λ_=>rfl) _;have hs3:=K3.out.size;rw[ER.out,EA3.out,if_pos rfl];refine⟨rfl,bm',pv',v',⟨H.out.n4,hdz.bD ks (λk hf' e=>jG hdz hjz (by decide) (by decide) (by decide) (e▸hf')),by have:=hjz.set 6 v';exact this,hr.bD λk e=>ks.block k (World.ownsRow.lt hr k e).2 (λe'=>iM hr hjz (by decide) (e'▸e)), ?_,H.out.hf, ?_, ?_⟩, ?_,U.out.2.1,U.out.2.2,λk e=>(hf k e).imp id (λh=>by omega)⟩
       ·show num+1<=999999999;omega
       ·show l+(bR body.data.toList).length<=_;have h2:(bR body.data.toList).length=x.size:=by rw[EX.out,ft]
        rw[h2, <-ESZ.out, <-ERM.out]
        have:=ELS.out;omega
       ·show 1-sa<=1;omega
       ·exact(((K3.out.mono (λk _ h=>h.elim .inl (λh=> .inr (.inr h))):aJ (pD jb b bs bm pv rv) w w3)).trans hk (λk _ e=> .inr (.inl e))).trans ks (λk _ e=> .inl e)
      have k3:Hid (ay w3 w.heap.size [.pointer (some ⟨jb,0,none⟩)] 101):=by have hb0:=kJ.out.below HB2.out kJ.out.lt;exact hb0.bG (K23.out.block _ hb0.lt (λh=>h.elim (λe=>by omega) (λhf=>by have:=H.out.ly.lt hf;omega)))
      have q0:=k3.out.ag 0 _ rfl;have q6:=hj3.ag 6 _ rfl;have f6:=hj3.frozen 6;have HJ3:=h_ hj3;have AN:tx body.data.toList=body:=Ks body;obtain⟨i0,hi,hz0,hz1,hz2⟩:=info_parts Db;have HI:=h_ hi;have HZ0:=h_ hz0;have HZ1:=h_ hz1;have HZ2:=h_ hz2;have HRL:Hid (((srec.map tx).flatMap lR).length=srec.length):=by have:=HRW.out.1;rw[KJ]at this;exact this
      obtain⟨X,eX⟩:=x_ ((srec.map tx).flatMap lR)
      have hrow0:w3.ownsRow 0 9 1 rv srec.length X:=by rw[eX];exact HRW.out
      have SN:Hid (((srec++ [body.data.toList]).map tx).flatMap lR=X++ [.string body]):=by show _=_;rw[JT,AN,eX]
      rw[<-eX]at HRL;have HR0:=h_ hrow0;clear hj3 hi hz0 hz1 hz2 eX EA3 ER;by_cases hroom:∃g cap,rv= .slice (some ⟨g,0,none⟩) srec.length cap/\srec.length+1<=cap
      ·obtain⟨g,cap,hrv,hcap⟩:=hroom;obtain⟨_,⟨h0,_⟩|⟨g',cap',cur,h0,_,hcur,hn1,hc1,hcs,htk⟩⟩:=hrow0
       ·rw[hrv]at h0;cases h0
       rw[hrv]at h0;injection h0 with e1 _ e3;injection e1 with e1;injection e1 with e1;subst e1 e3;rw[KJ]at hcs htk;have hgj:g≠jb:=λe=>iM HRW.out HJ3.out (by decide) (by rw[hrv, <-e];rfl)
       have hgb:g≠w.heap.size:=λe=>iM HRW.out k3.out (by decide) (by rw[hrv, <-e];rfl)
       have hg3:g<w3.heap.size:=(iS.1 hcur).1;have HFIT:Hid (∀cc:Array Value,cc.size=cap->srec.length+([Value.string body]:List Value).length<=cc.size):=λcc e=>by rw[e];exact hcap
       have HRV:=h_ hrv
       letI:Fre2.Rel:=⟨rY g srec.length [.string body] cap,rY.refl _ _ _ _,rY.trans HFIT.out⟩
       rw[hrv]at q6;clear hrv f6;go_wp2_with fail;refine Fre2.ai 10 [(6, .ind (λg6=> .slice (some ⟨g6,0,none⟩) 1 1) (λg6 w2=>ay w2 g6 [.string body] 9/\g6≠g)),(7, .ind (λ_=> .slice (some ⟨g,0,none⟩) (srec.length+1) cap) (λ_ w2=> ∃cc:Array Value,w2.heap[g]? =some (.cells (Apk.nU cc srec.length [.string body]) 9 (0,0))/\cc.size=cap/\cc.toList.take srec.length=X))]
        (λw2=>w2.cell? ⟨w.heap.size,0,none⟩=some (.pointer (some ⟨jb,0,none⟩))/\w2.cell? ⟨jb,6,none⟩=some (.slice (some ⟨g,0,none⟩) srec.length cap)/\(∃cc:Array Value,w2.heap[g]? =some (.cells cc 9 (0,0))/\cc.size=cap/\cc.toList.take srec.length=X)/\w3.heap.size<=w2.heap.size) (by kernel_rfl) (by kernel_rfl) ?_ ⟨q0,q6,⟨cur,hcur,hcs,htk⟩,aL _⟩
        (λy1 y2 h r=> ?_) ?_
       ·intro j mk r hf y w1 w2 hr rr;obtain⟨rk,rc⟩:=rr;simp only[Free.find]at hf
        repeat' split at hf
        ·cases hf;exact⟨hr.1.bG (rk.block _ hr.1.lt hr.2),hr.2⟩
        ·cases hf
         obtain⟨cc,h1,h2,h3⟩:=hr;refine⟨cc, ?_,h2,h3⟩;rcases rc _ h1 (by rw[Apk.fH _ _ _ (HFIT.out cc h2)];exact h2)with h4|h4
         ·exact h4
         ·rw[h4,Apk.rT _ _ _ (HFIT.out cc h2)]
        ·cases hf
       ·obtain⟨rk,rc⟩:=r;obtain⟨h1,h2,⟨cc,h3,h4,h5⟩,h6⟩:=h;refine⟨?_, ?_, ?_,fO h6 rk.size⟩
        ·rw[World.cell?_of_block (rk.block _ (World.block_lt_of_cell? y1 _ h1) (nq hgb))];exact h1
        ·rw[World.cell?_of_block (rk.block _ (World.block_lt_of_cell? y1 _ h2) (nq hgj))];exact h2
        ·rcases rc _ h3 h4 with h7|h7
         ·exact⟨cc,h7,h4,h5⟩
         ·exact⟨_,h7,by rw[Apk.fH _ _ _ (HFIT.out cc h4)];exact h4,by rw[Apk.tK _ _ _ (HFIT.out cc h4)];exact h5⟩
       simp only[eJ,dT];clear q0 q6;iterate 7 (first|(apply Fre2.ae (Free.wq rfl) rfl;(intro w' hB hA;obtain⟨q0,q1,q2,q3⟩:=hB;clear hA q2 q3;go_light;go_simp<;>rfl);(try simp only[Pt]))|(apply Fre2.aR rfl rfl;(intro w' hB hA;refine Free.cq (v:= .slice (some ⟨w'.heap.size,0,none⟩) 1 1) (w':=w'.alloc (.cells #[.string body] 9)) (by clear hB hA;go_light;go_simp<;>rfl) ⟨F8 ((Below.refl _ _).alloc (aL _) _),w'.heap.size,rfl,ay.new w' [.string body] 9, ?_⟩;have:=hB.2.2.2;omega)))
       intro g6;simp only[Pt];iterate 1 (apply Fre2.aR rfl rfl;(intro w' hB hA;have h6:ay w' g6 [.string body] 9/\g6≠g:=hA _ dH (by kernel_rfl);obtain⟨_,_,⟨cc,h3,h4,h5⟩,_⟩:=hB;have hrun:=Apk.lJ (P:=Tryz.prog) w' 137 137 9 i0 1 Tryz.underlying137 HI.out HZ1.out g srec.length cap cc h3 ⟨g6,0,none⟩ 1 1 [.string body] rfl (λj u hu=>by rw[addr_add,nW];exact h6.1.ag j u hu) (λu hu=>by rw[vU.1 hu];rfl) hcap (by rw[KJ];exact h4);rw[KJ]at hrun;refine Free.cq (v:= .slice (some ⟨g,0,none⟩) (srec.length+1) cap) (w':=w'.setRow g (Apk.nU cc srec.length [.string body])) ?_ ⟨JO h3,0,rfl,cc,setRow_heap w' g cc _ 9 _ h3,h4,h5⟩;exact dL (s:= .tmp 46) (x:= .tmp 48) rfl rfl rfl hrun))
       intro y;simp only[Pt];iterate 2 (apply Fre2.ae (Free.wq rfl) rfl;(intro w' hB hA;obtain⟨q0,q1,q2,q3⟩:=hB;clear hA q0 q1 q2 q3;go_light;go_simp<;>rfl);(try simp only[Pt]))
       apply Fre2.ax;intro wz hBz hg hh;have h7:=hh _ dH;simp only at h7;obtain⟨cc,hc1',hc2,hc3⟩:=h7;obtain⟨hz,_⟩:aJ (λk=>k=g) w3.drew wz/\_:=hg;have hown7:fY wz 0 (.slice (some ⟨g,0,none⟩) (srec.length+1) cap) (srec++ [body.data.toList]):=by unfold fY;rw[SN.out,fu];have hXl:X.length=srec.length:=HRL.out;refine⟨by rw[fu,hXl];simp, .inr ⟨g,cap,_,rfl,gu _,hc1',hcap,hc1,by rw[Apk.fH _ _ _ (HFIT.out cc hc2),KJ];exact hc2, ?_⟩⟩;unfold Apk.nU;rw[hc3];rw[P7 (by simp[hXl]),np (by simp[hXl])]
       have hjz:ay wz jb _ 189:=(HJ3.out.drew).bG (hz.block jb HJ3.out.lt (nq hgj));have f6:=hjz.frozen 6;have c6:=hjz.ag 6 _ rfl;rw[HRV.out]at c6;have G:=h_ (FINW wz _ (by rw[HRV.out];exact(show aJ (λk=>(Value.slice (some ⟨g,0,none⟩) srec.length cap).ownBlock=some k) w3 wz from⟨hz.os,hz.tape,hz.output,hz.size,λk hk hn=>hz.block k hk (λe=>hn (by rw[e];rfl))⟩)) hown7 (λk e=> .inl (by rw[HRV.out];exact e)));simp only[fm,fo];clear hBz hh hown7 hz hjz hc1' hc2 hc3 hcur hcs htk FINW;go_wp2_with fail;(try go_ret);exact G.out
      ·have HRM3:Hid (∀g cap,rv= .slice (some ⟨g,0,none⟩) srec.length cap->cap<srec.length+1):=λg cap e=>Nat.lt_of_not_le (λhc=>hroom ⟨g,cap,e,hc⟩)
       obtain⟨Ar,lr,cr,hrv⟩:=Bq HRW.out;have HRV:=h_ hrv;rw[hrv]at q6;obtain⟨L,eL⟩:=x_ srec.length
       rw[<-eL]at HRM3 HRL HR0 hrec;have HRC:=h_ hrec;have EL:=h_ eL;have HR3:Hid (w3.ownsRow 0 9 1 rv L X):=HR0.out;clear hrv hroom eL f6 hrow0 hrec;go_wp2_with fail;refine Free.ai 10 [(6, .ind (λg=> .slice (some ⟨g,0,none⟩) 1 1) (λg w2=>ay w2 g [.string body] 9)),(7, .ind (λy=> .slice (some ⟨y / 18446744073709551616,0,none⟩) (L+1) (y % 18446744073709551616)) (λy w2=>w2.ownsRow 0 9 1 (.slice (some ⟨y / 18446744073709551616,0,none⟩) (L+1) (y % 18446744073709551616)) (L+1) (X++ [.string body])/\w3.heap.size<=y / 18446744073709551616))]
        (λw2=>w2.cell? ⟨w.heap.size,0,none⟩=some (.pointer (some ⟨jb,0,none⟩))/\w2.cell? ⟨jb,6,none⟩=some (.slice Ar lr cr)/\w2.ownsRow 0 9 1 rv L X/\w3.heap.size<=w2.heap.size) (by kernel_rfl) (by kernel_rfl) ?_ ⟨q0,q6,HR3.out,aL _⟩
        (λy1 y2 h g=>⟨df h.1 g,df h.2.1 g,bC h.2.2.1 (λk e=>g.block k (h.2.2.1.lt k e).2),fO h.2.2.2 g.size⟩) ?_
       ·intro j mk r hf y w1 w2 hr g;simp only[Free.find]at hf
        repeat' split at hf
        ·cases hf;exact hr.below g hr.lt
        ·cases hf;exact⟨bC hr.1 (λk e=>g.block k (hr.1.lt k e).2),hr.2⟩
        ·cases hf
       simp only[eJ,dT];clear q0 q6;iterate 7 (first|(apply Free.ae (Free.wq rfl) rfl;(intro w' hB hA;obtain⟨q0,q1,q2,q3⟩:=hB;clear hA q2 q3;go_light;go_simp<;>rfl);(try simp only[Pt]))|(apply Free.aR rfl rfl;(intro w' hB hA;exact Free.cq (v:= .slice (some ⟨w'.heap.size,0,none⟩) 1 1) (w':=w'.alloc (.cells #[.string body] 9)) (by clear hB hA;go_light;go_simp<;>rfl) ⟨(Below.refl _ _).alloc (aL _) _,w'.heap.size,rfl,ay.new w' [.string body] 9⟩)))
       intro g6;simp only[Pt];apply Free.aR rfl rfl
       ·intro w' hB hA;have h6:ay w' g6 [.string body] 9:=hA _ dH (by kernel_rfl);have hL6:L<=1000000:=HRC.out;obtain⟨cap,w5,hrun,hown5,hgr5⟩:=Apk.oi (P:=Tryz.prog) w' 0 137 137 9 i0 _ 1 16 Tryz.underlying137 HI.out HZ0.out HZ1.out HZ2.out rfl (by decide) rv L X hB.2.2.1 ⟨g6,0,none⟩ 1 1 [.string body] rfl (λj u hu=>by rw[addr_add,nW];exact h6.ag j u hu) (λu hu=>by rw[vU.1 hu];rfl) (by unfold maxLen;omega) (by omega) (gu _) (by decide) HRM3.out;have hcap:cap<18446744073709551616:=by
         obtain⟨_,h0|⟨g',cap',cur',e',_,_,_,hc',_⟩⟩:=hown5
         ·exact absurd h0.2 (by omega)
         ·injection e' with _ _ e3;subst e3;unfold maxLen at hc';omega
        have e1:(w'.heap.size*18446744073709551616+cap) / 18446744073709551616=w'.heap.size:=by omega
        have e2:(w'.heap.size*18446744073709551616+cap) % 18446744073709551616=cap:=by omega
        refine Free.cq (v:= .slice (some ⟨w'.heap.size,0,none⟩) (L+1) cap) (w':=w5) ?_ ⟨⟨hgr5.os,hgr5.tape,hgr5.output,hgr5.size,λk hk=>hgr5.block k hk (by simp)⟩,w'.heap.size*18446744073709551616+cap,by rw[e1,e2],by rw[e1,e2];exact⟨hown5,hB.2.2.2⟩⟩;exact dL (s:= .tmp 46) (x:= .tmp 48) rfl (by rw[HRV.out];rfl) rfl hrun
       intro y;simp only[Pt];iterate 2 (apply Free.ae (Free.wq rfl) rfl;(intro w' hB hA;obtain⟨q0,q1,q2,q3⟩:=hB;clear hA q0 q1 q2 q3;go_light;go_simp<;>rfl);(try simp only[Pt]))
       apply Free.ax;intro wz hBz hg hh;have h7:=hh _ dH;simp only at h7;obtain⟨hown7,hfr7⟩:=h7;have hz:=fC hg;have hjz:ay wz jb _ 189:=HJ3.out.below hz HJ3.out.lt;have f6:=hjz.frozen 6;have c6:=hjz.ag 6 _ rfl;rw[HRV.out]at c6;have hrt:fY wz 0 (.slice (some ⟨y / 18446744073709551616,0,none⟩) (L+1) (y % 18446744073709551616)) (srec++ [body.data.toList]):=by unfold fY;rw[SN.out,fu, <-EL.out];exact hown7
       have G:=h_ (FINW wz _ (aJ.aY hz) hrt (λk e=> .inr (by
        have h8:y / 18446744073709551616=k:=by simpa[Value.ownBlock]using e
        omega)))
       simp only[fm,fo];clear hBz hh hown7 hfr7 hz hjz hrt FINW hg;go_wp2_with fail;(try go_ret);exact G.out
     ·have hcb:(c==0)=false:=by simpa using z
      have FIN:Hid (R (.returned (.int .i64 c)) w3):=by rw[ER.out,EA3.out,if_neg z];exact⟨rfl,bm',pv',rv,⟨H.out.n4,U.out.1,hj3,HRW.out,H.out.num,H.out.hf,H.out.len,H.out.at_⟩,K3.out.mono (λk _ h=>h.elim .inl (λh=> .inr (.inr h))),U.out.2.1,U.out.2.2,λ_ h=> .inl h⟩
      clear hj3 EA3;go_wp2_with fail;(try go_ret);exact FIN.out
open Go.Opn
structure PJ (we w:World) (jb b bs bm n:Nat) (pv rv:Value) (s:JS):Prop where
 j:Cc w jb b bs bm pv rv n s
 e:En we w b bs bm pv
 jb:we.heap.size<=jb
 rv:∀k,rv.ownBlock=some k->we.heap.size<=k
section
variable {we w w':World} {jb b bs bm n:Nat} {pv rv vo vo':Value} {s s':JS} {c:Int} {e:Ending} {o o':List (List UInt8)}
theorem PJ.fp(h:PJ we w jb b bs bm n pv rv s){k:Nat}(hk:pD jb b bs bm pv rv k):we.heap.size<=k:=by
 rcases hk with rfl|hk|hk
 ·exact h.jb
 ·exact h.rv k hk
 ·exact h.e.f k hk
theorem PJ.bD{F:Nat->Prop}(h:PJ we w jb b bs bm n pv rv s)(hk:aJ F w w')(hF:∀k,pD jb b bs bm pv rv k-> ¬F k)(hB:∀k,F k->we.heap.size<=k):PJ we w' jb b bs bm n pv rv s:=
 ⟨h.j.bD hk hF,⟨h.e.t,h.e.bl.trans (hk.below hB h.e.bl.size),h.e.f⟩,h.jb,h.rv⟩
theorem PJ.grow(h:PJ we w jb b bs bm n pv rv s)(hb:Below w.heap.size w w'):PJ we w' jb b bs bm n pv rv s:=h.bD (F:=λ_=>False) (aJ.aY hb) (λ_ _ f=>f) (λ_ f=>f.elim)
theorem PJ.next(h:PJ we w jb b bs bm n pv rv s)(p:uF w jb b bs bm n pv rv (s',c) e w'):
  e= .returned (.int .i64 c)/\∃bm' pv' rv',PJ we w' jb b bs bm' n pv' rv' s'/\aJ (pD jb b bs bm pv rv) w w'/\(∀k,pD jb b bs bm' pv' rv' k->pD jb b bs bm pv rv k\/w.heap.size<=k):=by
 obtain⟨h1,bm',pv',rv',h2,h3,h4,h5,h6⟩:=p;have hs:=h.e.bl.size;have hf:∀k,pD jb b bs bm' pv' rv' k->pD jb b bs bm pv rv k\/w.heap.size<=k:=by
  rintro k (rfl|hk|rfl|rfl|rfl|hk)
  ·exact .inl (.inl rfl)
  ·exact(h6 k hk).imp (λh=> .inr (.inl h)) id
  ·exact .inl (.inr (.inr (.inl rfl)))
  ·exact .inl (.inr (.inr (.inr (.inl rfl))))
  ·rcases h4 with rfl|h4
   ·exact .inl (.inr (.inr (.inr (.inr (.inl rfl)))))
   ·exact .inr h4
  ·exact(h5 k hk).imp (λh=> .inr (.inr (.inr (.inr (.inr h))))) id
 have hf2:∀k,pD jb b bs bm' pv' rv' k->we.heap.size<=k:=λk hk=>(hf k hk).elim (λh'=>h.fp h') (λh'=>by omega)
 exact⟨h1,bm',pv',rv',⟨h2,⟨h.e.t,h.e.bl.trans (h3.below (λk hk=>h.fp hk) hs),λk hk=>hf2 k (.inr (.inr hk))⟩,h.jb,λk hk=>hf2 k (.inr (.inl hk))⟩,h3,hf⟩
end
end Go.Proofs.YtkmbmfengcdmoaaGreatDoor
