/- A journal behind a base world, with a row of the caller beside it. No condition. -/
import Derived.Test.YtkmbmfengcdmoaaGreatDoorZAZ
import Derived.Test.YtkmbmfengcdmoaaGreatDoorZAY
set_option maxRecDepth 100000
set_option linter.all false
namespace Go.Proofs.YtkmbmfengcdmoaaGreatDoor
open Go.RowKit Go.ay Go.Jn Go.Dk Go.Mp Go.Rf Go.Shelf Go.Apl
def rY(g o:Nat)(E:List Value)(sz:Nat)(w w':World):Prop:=
 aJ (λk=>k=g) w w'/\∀cc:Array Value,w.heap[g]? =some (.cells cc 9 (0,0))->cc.size=sz->w'.heap[g]? =some (.cells cc 9 (0,0))\/w'.heap[g]? =some (.cells (Apk.nU cc o E) 9 (0,0))
theorem rY.refl(g o:Nat)(E:List Value)(a:Nat)(w:World):rY g o E a w w:=⟨aJ.refl _ _,λ_ h _=> .inl h⟩
theorem rY.trans{g o:Nat}{E:List Value}{j:Nat}(p:∀d:Array Value,d.size=j->o+E.length<=d.size)(a b c:World)(h:rY g o E j a b)(k:rY g o E j b c):rY g o E j a c:=
 ⟨h.1.trans k.1 (λ_ _ f=>f),λd q i=>by
  rcases h.2 d q i with l|l
  ·exact k.2 d l i
  ·rcases k.2 _ l (by rw[Apk.fH _ _ _ (p d i)];exact i)with m|m
   ·exact .inr m
   ·exact .inr (by rw[m,Apk.rT _ _ _ (p d i)])⟩
theorem F8{g o:Nat}{E:List Value}{d:Nat}{w w':World}(h:Below w.heap.size w w'):rY g o E d w w':=
 ⟨aJ.aY h,λ_ a _=> .inl ((h.block g (iS.1 a).1).trans a)⟩
theorem JO{g o:Nat}{E:List Value}{h:Nat}{w:World}{a:Array Value}(f:w.heap[g]? =some (.cells a 9 (0,0))):rY g o E h w (w.setRow g (Apk.nU a o E)):=
 ⟨(aJ.refl (λk=>k=g) w).setRow (λ_=>rfl) _,λi d _=>by rw[f]at d;cases d;exact .inr (setRow_heap w g a _ 9 _ f)⟩
theorem JT(l:List (List UInt8))(x:List UInt8):((l++ [x]).map tx).flatMap lR=(l.map tx).flatMap lR++ [.string (tx x)]:=by rw[uE,DU];rfl
def uF(w:World)(jb b bs bm n:Nat)(pv rv:Value)(r:JS×Int)(e:Ending)(w':World):Prop:=
 e= .returned (.int .i64 r.2)/\∃bm' pv' rv',Cc w' jb b bs bm' pv' rv' n r.1/\aJ (pD jb b bs bm pv rv) w w'/\(bm'=bm\/w.heap.size<=bm')/\(∀k,pv'.ownBlock=some k->pv.ownBlock=some k\/w.heap.size<=k)/\(∀k,rv'.ownBlock=some k->rv.ownBlock=some k\/w.heap.size<=k)
section
variable {w w':World} {jb b bs bm n:Nat} {pv rv:Value} {s:JS}
theorem uF.same(h:Cc w jb b bs bm pv rv n s)(a:Below w.heap.size w w')(c:Int):uF w jb b bs bm n pv rv (s,c) (.returned (.int .i64 c)) w':=
 ⟨rfl,bm,pv,rv,h.below a,aJ.aY a, .inl rfl,λ_ h=> .inl h,λ_ h=> .inl h⟩
end
set_option maxHeartbeats 400000 in
theorem Ab{w0 w:World}{jb b bs bm n:Nat}{pv rv:Value}{s:JS}(body:ByteArray)(h:Cc w jb b bs bm pv rv n s)(i9:s.d.aF.length<=900000)(dl:s.bW.length<=1000000)(Fw:body.size<=9223372036854775807)(hE:En w0 w b bs bm pv):
  Calls Tryz.prog 84 #[.pointer (some ⟨jb,0,none⟩), .string body] w (uF w jb b bs bm n pv rv (s.append n body.data.toList)):=by
 obtain⟨R,eR⟩:=x_ (uF w jb b bs bm n pv rv (s.append n body.data.toList))
 rw[<-eR];have ul:body.data.toList.length=body.size:=by simp
 have FS:Hid (∀c w',s.append n body.data.toList=(s,c)->Below w.heap.size w w'->R (.returned (.int .i64 c)) w'):=λc w' he Z=>by rw[eR,he];exact uF.same h Z c
 have ER:=h_ eR;have H:=h_ h;have d8:Hid (Below w.heap.size w (w.alloc (.cells #[.pointer (some ⟨jb,0,none⟩)] 101))):=(Below.refl _ w).alloc (aL _) _;have c7:=aO (h.bg.ag 7 _ rfl) d8.out;clear eR;cases hbr:s.broken with
 |true=>
  have F:=h_ (FS.out 13 _ (by unfold JS.append;rw[if_pos hbr]) d8.out);rw[hbr]at c7;clear FS h hbr;go_enter Tryz.func84,Tryz.ntmps84;go_wp2_with fail;(try go_ret);exact F.out
 |false=>
  rw[hbr]at c7;by_cases Fs:2000<body.size
  ·have t1:decide ((2000:Int)<(body.size:Int))=true:=dt (by omega);have F:=h_ (FS.out 3 _ (by unfold JS.append;rw[if_neg (by rw[hbr];decide),if_pos (by omega)]) d8.out);clear FS h hbr;go_enter Tryz.func84,Tryz.ntmps84;go_wp2_with fail;(try go_ret);exact F.out
  ·have t1:decide ((2000:Int)<(body.size:Int))=false:=dy (by omega);have v6:=kF (b:=body.data.toList) (by omega);have EA:Hid (s.append n body.data.toList=if 32*((n-2) / 2)<s.v.2.2+(4+body.size)\/s.v.1=999999999 then(s,19)else
     if(cy n s.a s.v.1 s.v.2.1 s.v.2.2 (bR body.data.toList) s.d).2=0 then
      ({d:=(cy n s.a s.v.1 s.v.2.1 s.v.2.2 (bR body.data.toList) s.d).1,v:=(s.v.1+1,s.v.2.1,s.v.2.2+(bR body.data.toList).length),a:=1-s.a,bW:=s.bW++ [body.data.toList],broken:=false},0)
     else({s with d:=(cy n s.a s.v.1 s.v.2.1 s.v.2.2 (bR body.data.toList) s.d).1,broken:=true},(cy n s.a s.v.1 s.v.2.1 s.v.2.2 (bR body.data.toList) s.d).2)):=by
    show _=_;unfold JS.append;rw[if_neg (by rw[hbr];decide),if_neg (by omega),ul]
   have FR:=h_ (E5 body (w.alloc (.cells #[.pointer (some ⟨jb,0,none⟩)] 101)) (by omega) (hE.grow d8.out).h);have i':(tx (bR body.data.toList)).size=4+body.size:=by rw[ft,v6,ul]
   obtain⟨size,es⟩:=x_ ((n-2) / 2)
   have In:=h.ly.ok.n2;have ip:=h.len;have z':=h.num;rw[<-es]at EA ip;have io:=h.bg;rw[<-es]at io;have HJ:=h_ io;have py:=h_ (fun(w':World) (Z:Below w.heap.size w w')=>zn (w:=w') (jb:=jb) size ((io.below Z io.lt).ag 4 _ rfl) (by omega));obtain⟨room,er⟩:=x_ (32*size)
   rw[<-er]at EA ip py;have Do:room<=1000000:=by omega
   obtain⟨x,ex⟩:=x_ (tx (bR body.data.toList))
   rw[<-ex]at FR i';obtain⟨sd,⟨num,t,l⟩,sa,i,It⟩:=s;dsimp only at hbr ip z' EA FS c7 i9 dl;subst hbr;have HE:=h_ hE;have EX:=h_ ex;have pi:=h_ er;have m5:=h_ es;clear h v6 io er ex es hE;go_enter Tryz.func84,Tryz.ntmps84;go_wp2_with fail;refine FR.out.mono ?_;rintro e Y ⟨rfl,li⟩;have pl:=h_ (d8.out.trans (li.mono d8.out.size));have G':Hid (ay Y w.heap.size [.pointer (some ⟨jb,0,none⟩)] 101):=(ay.new w _ _).below li (by simp);have S1:Hid (w.heap.size+1<=Y.heap.size):=by have:=li.size;show _<=_;simpa using this
   clear li FR;go_wp2_with fail;obtain⟨V,eV⟩:=x_ (Y.alloc (.cells #[.string x] 9))
   have E8:Hid (Below Y.heap.size Y V):=by rw[eV];exact(Below.refl _ Y).alloc (aL _) _
   have kJ:Hid (ay V w.heap.size [.pointer (some ⟨jb,0,none⟩)] 101):=by rw[eV];exact G'.out.alloc _
   have kX:Hid (ay V Y.heap.size [.string x] 9):=by rw[eV];exact ay.new Y _ _
   have B:=h_ (pl.out.trans (E8.out.mono pl.out.size));have VS:Hid (V.heap.size=Y.heap.size+1):=by show _=_;rw[eV];simp
   rw[<-eV];clear eV c7;have pm:=h_ (HJ.out.below B.out HJ.out.lt);have g0:=kJ.out.ag 0 _ rfl;have g1:=kX.out.ag 0 _ rfl;have j0:=pm.out.ag 0 _ rfl;have j2:=pm.out.ag 2 _ rfl;dsimp only at j0 j2;have Iq:x.size<=3000:=by omega
   have qr:=h_ i';have ge:Hid (∀w',Below w.heap.size w w'->Calls Tryz.prog 129 #[.pointer (some ⟨jb,0,none⟩)] w' λe C=>e= .returned (.int .i64 (room:Int))/\Below w'.heap.size w' C):=λw' Z=>(py.out w' Z).mono λe C h=>⟨h.1,by rw[h.2];exact Below.refl _ _⟩
   obtain⟨ls,rx⟩:=x_ (l+x.size)
   have wl:IntKind.i64.wrap ((l:Int)+(x.size:Int))=(ls:Int):=by rw[IntWalk.i64_left,IntWalk.wrap64_in _ ⟨by omega,by omega⟩];omega
   have ld:=h_ rx;clear i' rx;by_cases A:room<ls
   ·have tA:decide ((room:Int)<(ls:Int))=true:=dt (by omega);have F:=h_ (λw' Z=>FS.out 19 w' (by rw[EA.out,if_pos (.inl (by rw[<-qr.out, <-ld.out];exact A))]) Z);clear FS EA;refine Free.ai 19 [(9, .det (.int .i64 (room:Int)))] (λy=>Below V.heap.size V y/\y.cell? ⟨w.heap.size,0,none⟩=some (.pointer (some ⟨jb,0,none⟩))/\y.cell? ⟨Y.heap.size,0,none⟩=some (.string x)/\y.cell? ⟨jb,0,none⟩=some (.int .i64 (num:Int))/\y.cell? ⟨jb,2,none⟩=some (.int .i64 (l:Int))) (by kernel_rfl) (by kernel_rfl) (Free.aW (λj mk r t=>by simp only[Free.find]at t;repeat' (first|cases t|split at t))) ⟨(Below.refl _ _).drew,g0,g1,j0,j2⟩
     (λ_ _ h g=>⟨h.1.trans (Below.mono g h.1.size),aO h.2.1 g,aO h.2.2.1 g,aO h.2.2.2.1 g,aO h.2.2.2.2 g⟩) ?_
    simp only[eJ,dT];iterate 19 (first|(apply Free.dw (by exact fk rfl rfl rfl rfl);simp only[Pt])|(apply Free.aC (Free.wq rfl) rfl;(intro w' q A;refine Free.au (f:=129) (args:= #[.pointer (some ⟨jb,0,none⟩)]) (by clear q A;go_simp<;>rfl) ?_;refine(ge.out w' (B.out.trans (q.1.mono B.out.size))).mono ?_;rintro e O ⟨rfl,g7⟩;exact⟨_,rfl,g7,rfl⟩);simp only[Pt])|(apply Free.ae (Free.wq rfl) rfl;(intro w' q A;obtain⟨qB,q0,q1,q2,q3⟩:=q;clear A qB;go_light;go_simp<;>rfl);(try simp only[Pt])))
    apply Free.ax;intro C N _ _;simp only[fm,fo];have G:=h_ (F.out _ (B.out.trans (N.1.mono B.out.size)));clear N g0 g1 j0 j2;go_wp2_with fail;(try go_ret);exact G.out
   ·have tA:decide ((room:Int)<(ls:Int))=false:=dy (by omega);by_cases hN:num=999999999
    ·have tN:((num:Int)==999999999)=true:=by simp;omega
     have F:=h_ (λw' Z=>FS.out 19 w' (by rw[EA.out,if_pos (.inr hN)]) Z);clear FS EA hN;refine Free.ai 19 [(9, .det (.int .i64 (room:Int)))] (λy=>Below V.heap.size V y/\y.cell? ⟨w.heap.size,0,none⟩=some (.pointer (some ⟨jb,0,none⟩))/\y.cell? ⟨Y.heap.size,0,none⟩=some (.string x)/\y.cell? ⟨jb,0,none⟩=some (.int .i64 (num:Int))/\y.cell? ⟨jb,2,none⟩=some (.int .i64 (l:Int))) (by kernel_rfl) (by kernel_rfl) (Free.aW (λj mk r t=>by simp only[Free.find]at t;repeat' (first|cases t|split at t))) ⟨(Below.refl _ _).drew,g0,g1,j0,j2⟩
      (λ_ _ h g=>⟨h.1.trans (Below.mono g h.1.size),aO h.2.1 g,aO h.2.2.1 g,aO h.2.2.2.1 g,aO h.2.2.2.2 g⟩) ?_
     simp only[eJ,dT];iterate 19 (first|(apply Free.aC (Free.wq rfl) rfl;(intro w' q A;refine Free.au (f:=129) (args:= #[.pointer (some ⟨jb,0,none⟩)]) (by clear q A;go_simp<;>rfl) ?_;refine(ge.out w' (B.out.trans (q.1.mono B.out.size))).mono ?_;rintro e O ⟨rfl,g7⟩;exact⟨_,rfl,g7,rfl⟩);simp only[Pt])|(apply Free.ae (Free.wq rfl) rfl;(intro w' q A;obtain⟨qB,q0,q1,q2,q3⟩:=q;clear A qB;go_light;go_simp<;>rfl);(try simp only[Pt])))
     apply Free.ax;intro C N _ _;simp only[fm,fo];have G:=h_ (F.out _ (B.out.trans (N.1.mono B.out.size)));clear N g0 g1 j0 j2;go_wp2_with fail;(try go_ret);exact G.out
    ·have tN:((num:Int)==999999999)=false:=by simp;omega
     refine Free.ai 19 [(9, .det (.int .i64 (room:Int)))] (λy=>Below V.heap.size V y/\y.cell? ⟨w.heap.size,0,none⟩=some (.pointer (some ⟨jb,0,none⟩))/\y.cell? ⟨Y.heap.size,0,none⟩=some (.string x)/\y.cell? ⟨jb,0,none⟩=some (.int .i64 (num:Int))/\y.cell? ⟨jb,2,none⟩=some (.int .i64 (l:Int))) (by kernel_rfl) (by kernel_rfl) (Free.aW (λj mk r t=>by simp only[Free.find]at t;repeat' (first|cases t|split at t))) ⟨(Below.refl _ _).drew,g0,g1,j0,j2⟩
      (λ_ _ h g=>⟨h.1.trans (Below.mono g h.1.size),aO h.2.1 g,aO h.2.2.1 g,aO h.2.2.2.1 g,aO h.2.2.2.2 g⟩) ?_
     simp only[eJ,dT];iterate 19 (first|(apply Free.aC (Free.wq rfl) rfl;(intro w' q A;refine Free.au (f:=129) (args:= #[.pointer (some ⟨jb,0,none⟩)]) (by clear q A;go_simp<;>rfl) ?_;refine(ge.out w' (B.out.trans (q.1.mono B.out.size))).mono ?_;rintro e O ⟨rfl,g7⟩;exact⟨_,rfl,g7,rfl⟩);simp only[Pt])|(apply Free.ae (Free.wq rfl) rfl;(intro w' q A;obtain⟨qB,q0,q1,q2,q3⟩:=q;clear A qB;go_light;go_simp<;>rfl);(try simp only[Pt])))
     apply Free.ax;intro C N _ _;simp only[fm,fo];have f8:=h_ N.1;have g0:=(kJ.out.below N.1 kJ.out.lt).ag 0 _ rfl;clear N g1 j0 j2;have Gu:∀(fn:Fn) (first m:Array Value) (w:World),(Instr.makeFunc fn first m).run Tryz.prog w= .ok (.func fn first m) w:=λ_ _ _ _=>rfl
     go_wp2_with fail;have d6:l+(bR body.data.toList).length<=32*((n-2) / 2):=by
      have h1:=EX.out;have h2:(bR body.data.toList).length=x.size:=by rw[h1,ft]
      rw[h2, <-m5.out, <-pi.out]
      have:=ld.out;omega
     have f9:=h_ (B.out.trans (f8.out.mono B.out.size));have no:=H.out.ly.below f9.out;have ii:=HJ.out.below f9.out HJ.out.lt;rw[m5.out]at ii;have lm:=kX.out.below f8.out kX.out.lt;rw[EX.out]at lm;have TC:=h_ (Pk (g:=130) (cb:= #[.pointer (some ⟨w.heap.size,0,none⟩), .pointer (some ⟨Y.heap.size,0,none⟩)]) no ii (enters_of Tryz.func130 (by kernel_rfl) rfl)
      (λW Z=>Hg (no.below Z) H.out.n4 (ii.below Z ii.lt) ((kJ.out.below f8.out kJ.out.lt).below Z (by have:=kJ.out.lt;have:=f8.out.size;omega)) (lm.below Z lm.lt) H.out.at_ H.out.hf d6 (by omega) i9 ((HE.out.grow f9.out).grow Z)))
     have jp:=EA.out;rw[if_neg (λh=>h.elim (λh=>by have h1:=ld.out;have h2:=qr.out;omega) hN)]at jp;obtain⟨r,er⟩:=x_ (cy n sa num t l (bR body.data.toList) sd)
     rw[<-er]at jp;have kw:=h_ jp;have TC:Hid (Calls Tryz.prog 102 #[.pointer (some ⟨jb,0,none⟩), .func (.func 130) #[] #[.pointer (some ⟨w.heap.size,0,none⟩), .pointer (some ⟨Y.heap.size,0,none⟩)]] C (z8 C jb b bs bm n sa ((n-2) / 2) t (l+(bR body.data.toList).length) pv rv (num,t,l) r)):=by rw[er];exact TC.out
     clear d6 no ii lm EA jp er FS Gu;refine TC.out.mono ?_;rintro e O ⟨rfl,⟨gt,lw,u1,u2,u3,u4⟩,hc⟩;have Hl:jb<w.heap.size:=HJ.out.lt;have K3:Hid (aJ (λk=>k=jb\/Fp b bs bm pv k) w O):=aJ.trans (F:=λk=>k=jb\/Fp b bs bm pv k) (aJ.aY f9.out) u2 (λ_ _ f=>f);have U:Hid (aI O b bs gt lw r.1 n/\(gt=bm\/w.heap.size<=gt)/\(∀k,lw.ownBlock=some k->pv.ownBlock=some k\/w.heap.size<=k)):=by have:=f9.out.size;exact⟨u1,u3.imp id (λh=>by omega),λk hk=>(u4 k hk).imp id (λh=>by omega)⟩
     have S:Hid (fY O 0 rv i):=H.out.row.bD λk hk=>K3.out.block k (World.ownsRow.lt H.out.row k hk).2 (λh=>h.elim (λe=>iM H.out.row H.out.bg (by decide) (e▸hk)) (qp H.out.ly H.out.row (by decide) (by decide) (by decide) hk))
     have Fl:=h_ u2;clear u1 u2 u3 u4 TC;obtain⟨rd,c⟩:=r;dsimp only at hc;rcases hc with⟨z,K⟩|⟨z,K⟩
     ·subst z;have ci:Hid (∀Q v',aJ (λk=>rv.ownBlock=some k) O Q->fY Q 0 v' (i++ [body.data.toList])->(∀k,v'.ownBlock=some k->rv.ownBlock=some k\/O.heap.size<=k)->R (.returned (.int .i64 0)) (Q.setCell ⟨jb,6,none⟩ v')):=λQ v' hk hr t=>by
       have E:ay Q jb _ 189:=K.bG (hk.block jb K.lt (iM S.out K (by decide)));have ut:=U.out.1.bD hk (λk n8 e=>qp U.out.1 S.out (by decide) (by decide) (by decide) e n8);have ks:aJ (λk=>k=jb) Q (Q.setCell ⟨jb,6,none⟩ v'):=(aJ.refl (λk=>k=jb) Q).setCell (p:=⟨jb,6,none⟩) (λ_=>rfl) _;have Io:=K3.out.size;rw[ER.out,kw.out,if_pos rfl];refine⟨rfl,gt,lw,v',⟨H.out.n4,ut.bD ks (λk n8 e=>jG ut E (by decide) (by decide) (by decide) (e▸n8)),by have:=E.set 6 v';exact this,hr.bD λk e=>ks.block k (World.ownsRow.lt hr k e).2 (λe'=>iM hr E (by decide) (e'▸e)), ?_,H.out.hf, ?_, ?_⟩, ?_,U.out.2.1,U.out.2.2,λk e=>(t k e).imp id (λh=>by omega)⟩
       ·show num+1<=999999999;omega
       ·show l+(bR body.data.toList).length<=_;have h2:(bR body.data.toList).length=x.size:=by rw[EX.out,ft]
        rw[h2, <-m5.out, <-pi.out]
        have:=ld.out;omega
       ·show 1-sa<=1;omega
       ·exact(((K3.out.mono (λk _ h=>h.elim .inl (λh=> .inr (.inr h))):aJ (pD jb b bs bm pv rv) w O)).trans hk (λk _ e=> .inr (.inl e))).trans ks (λk _ e=> .inl e)
      have k3:Hid (ay O w.heap.size [.pointer (some ⟨jb,0,none⟩)] 101):=by have sm:=kJ.out.below f8.out kJ.out.lt;exact sm.bG (Fl.out.block _ sm.lt (λh=>h.elim (λe=>by omega) (λt=>by have:=H.out.ly.lt t;omega)))
      have q0:=k3.out.ag 0 _ rfl;have q6:=K.ag 6 _ rfl;have f6:=K.frozen 6;have gc:=h_ K;have AN:tx body.data.toList=body:=Ks body;obtain⟨i0,hi,At,By,C'⟩:=info_parts Db;have HI:=h_ hi;have Fd:=h_ At;have ro:=h_ By;have Fk:=h_ C';have m6:Hid (((i.map tx).flatMap lR).length=i.length):=by have:=S.out.1;rw[KJ]at this;exact this
      obtain⟨X,eX⟩:=x_ ((i.map tx).flatMap lR)
      have bi:O.ownsRow 0 9 1 rv i.length X:=by rw[eX];exact S.out
      have SN:Hid (((i++ [body.data.toList]).map tx).flatMap lR=X++ [.string body]):=by show _=_;rw[JT,AN,eX]
      rw[<-eX]at m6;have pu:=h_ bi;clear K hi At By C' eX kw ER;by_cases an:∃g m,rv= .slice (some ⟨g,0,none⟩) i.length m/\i.length+1<=m
      ·obtain⟨g,m,J,co⟩:=an;obtain⟨_,⟨h0,_⟩|⟨g',rt,Fr,h0,_,g8,If,Gb,nl,ol⟩⟩:=bi
       ·rw[J]at h0;cases h0
       rw[J]at h0;injection h0 with e1 _ e3;injection e1 with e1;injection e1 with e1;subst e1 e3;rw[KJ]at nl ol;have ww:g≠jb:=λe=>iM S.out gc.out (by decide) (by rw[J, <-e];rfl)
       have Gs:g≠w.heap.size:=λe=>iM S.out k3.out (by decide) (by rw[J, <-e];rfl)
       have Id:g<O.heap.size:=(iS.1 g8).1;have M:Hid (∀D:Array Value,D.size=m->i.length+([Value.string body]:List Value).length<=D.size):=λD e=>by rw[e];exact co
       have d9:=h_ J
       letI:Fre2.Rel:=⟨rY g i.length [.string body] m,rY.refl _ _ _ _,rY.trans M.out⟩
       rw[J]at q6;clear J f6;go_wp2_with fail;refine Fre2.ai 10 [(6, .ind (λg6=> .slice (some ⟨g6,0,none⟩) 1 1) (λg6 C=>ay C g6 [.string body] 9/\g6≠g)),(7, .ind (λ_=> .slice (some ⟨g,0,none⟩) (i.length+1) m) (λ_ C=> ∃D:Array Value,C.heap[g]? =some (.cells (Apk.nU D i.length [.string body]) 9 (0,0))/\D.size=m/\D.toList.take i.length=X))]
        (λC=>C.cell? ⟨w.heap.size,0,none⟩=some (.pointer (some ⟨jb,0,none⟩))/\C.cell? ⟨jb,6,none⟩=some (.slice (some ⟨g,0,none⟩) i.length m)/\(∃D:Array Value,C.heap[g]? =some (.cells D 9 (0,0))/\D.size=m/\D.toList.take i.length=X)/\O.heap.size<=C.heap.size) (by kernel_rfl) (by kernel_rfl) ?_ ⟨q0,q6,⟨Fr,g8,nl,ol⟩,aL _⟩
        (λy1 y2 h r=> ?_) ?_
       ·intro j mk r t y Y C hr rr;obtain⟨rk,rc⟩:=rr;simp only[Free.find]at t
        repeat' split at t
        ·cases t;exact⟨hr.1.bG (rk.block _ hr.1.lt hr.2),hr.2⟩
        ·cases t
         obtain⟨D,h1,h2,h3⟩:=hr;refine⟨D, ?_,h2,h3⟩;rcases rc _ h1 (by rw[Apk.fH _ _ _ (M.out D h2)];exact h2)with h4|h4
         ·exact h4
         ·rw[h4,Apk.rT _ _ _ (M.out D h2)]
        ·cases t
       ·obtain⟨rk,rc⟩:=r;obtain⟨h1,h2,⟨D,h3,h4,h5⟩,h6⟩:=h;refine⟨?_, ?_, ?_,fO h6 rk.size⟩
        ·rw[World.cell?_of_block (rk.block _ (World.block_lt_of_cell? y1 _ h1) (nq Gs))];exact h1
        ·rw[World.cell?_of_block (rk.block _ (World.block_lt_of_cell? y1 _ h2) (nq ww))];exact h2
        ·rcases rc _ h3 h4 with h7|h7
         ·exact⟨D,h7,h4,h5⟩
         ·exact⟨_,h7,by rw[Apk.fH _ _ _ (M.out D h4)];exact h4,by rw[Apk.tK _ _ _ (M.out D h4)];exact h5⟩
       simp only[eJ,dT];clear q0 q6;iterate 7 (first|(apply Fre2.ae (Free.wq rfl) rfl;(intro w' q A;obtain⟨q0,q1,q2,q3⟩:=q;clear A q2 q3;go_light;go_simp<;>rfl);(try simp only[Pt]))|(apply Fre2.aR rfl rfl;(intro w' q A;refine Free.cq (v:= .slice (some ⟨w'.heap.size,0,none⟩) 1 1) (w':=w'.alloc (.cells #[.string body] 9)) (by clear q A;go_light;go_simp<;>rfl) ⟨F8 ((Below.refl _ _).alloc (aL _) _),w'.heap.size,rfl,ay.new w' [.string body] 9, ?_⟩;have:=q.2.2.2;omega)))
       intro g6;simp only[Pt];iterate 1 (apply Fre2.aR rfl rfl;(intro w' q A;have h6:ay w' g6 [.string body] 9/\g6≠g:=A _ dH (by kernel_rfl);obtain⟨_,_,⟨D,h3,h4,h5⟩,_⟩:=q;have d7:=Apk.lJ (P:=Tryz.prog) w' 137 137 9 i0 1 Tryz.underlying137 HI.out ro.out g i.length m D h3 ⟨g6,0,none⟩ 1 1 [.string body] rfl (λj u hu=>by rw[addr_add,nW];exact h6.1.ag j u hu) (λu hu=>by rw[vU.1 hu];rfl) co (by rw[KJ];exact h4);rw[KJ]at d7;refine Free.cq (v:= .slice (some ⟨g,0,none⟩) (i.length+1) m) (w':=w'.setRow g (Apk.nU D i.length [.string body])) ?_ ⟨JO h3,0,rfl,D,setRow_heap w' g D _ 9 _ h3,h4,h5⟩;exact dL (s:= .tmp 46) (x:= .tmp 48) rfl rfl rfl d7))
       intro y;simp only[Pt];iterate 2 (apply Fre2.ae (Free.wq rfl) rfl;(intro w' q A;obtain⟨q0,q1,q2,q3⟩:=q;clear A q0 q1 q2 q3;go_light;go_simp<;>rfl);(try simp only[Pt]))
       apply Fre2.ax;intro Q m7 hg hh;have h7:=hh _ dH;simp only at h7;obtain⟨D,m4,m9,up⟩:=h7;obtain⟨hz,_⟩:aJ (λk=>k=g) O.drew Q/\_:=hg;have I:fY Q 0 (.slice (some ⟨g,0,none⟩) (i.length+1) m) (i++ [body.data.toList]):=by unfold fY;rw[SN.out,fu];have m8:X.length=i.length:=m6.out;refine⟨by rw[fu,m8];simp, .inr ⟨g,m,_,rfl,gu _,m4,co,Gb,by rw[Apk.fH _ _ _ (M.out D m9),KJ];exact m9, ?_⟩⟩;unfold Apk.nU;rw[up];rw[P7 (by simp[m8]),np (by simp[m8])]
       have E:ay Q jb _ 189:=(gc.out.drew).bG (hz.block jb gc.out.lt (nq ww));have f6:=E.frozen 6;have c6:=E.ag 6 _ rfl;rw[d9.out]at c6;have G:=h_ (ci Q _ (by rw[d9.out];exact(show aJ (λk=>(Value.slice (some ⟨g,0,none⟩) i.length m).ownBlock=some k) O Q from⟨hz.os,hz.tape,hz.output,hz.size,λk hk hn=>hz.block k hk (λe=>hn (by rw[e];rfl))⟩)) I (λk e=> .inl (by rw[d9.out];exact e)));simp only[fm,fo];clear m7 hh I hz E m4 m9 up g8 nl ol ci;go_wp2_with fail;(try go_ret);exact G.out
      ·have mt:Hid (∀g m,rv= .slice (some ⟨g,0,none⟩) i.length m->m<i.length+1):=λg m e=>Nat.lt_of_not_le (λhc=>an ⟨g,m,e,hc⟩)
       obtain⟨Ar,lr,cr,J⟩:=Bq S.out;have d9:=h_ J;rw[J]at q6;obtain⟨L,eL⟩:=x_ i.length
       rw[<-eL]at mt m6 pu dl;have E':=h_ dl;have EL:=h_ eL;have E9:Hid (O.ownsRow 0 9 1 rv L X):=pu.out;clear J an eL f6 bi dl;go_wp2_with fail;refine Free.ai 10 [(6, .ind (λg=> .slice (some ⟨g,0,none⟩) 1 1) (λg C=>ay C g [.string body] 9)),(7, .ind (λy=> .slice (some ⟨y / 18446744073709551616,0,none⟩) (L+1) (y % 18446744073709551616)) (λy C=>C.ownsRow 0 9 1 (.slice (some ⟨y / 18446744073709551616,0,none⟩) (L+1) (y % 18446744073709551616)) (L+1) (X++ [.string body])/\O.heap.size<=y / 18446744073709551616))]
        (λC=>C.cell? ⟨w.heap.size,0,none⟩=some (.pointer (some ⟨jb,0,none⟩))/\C.cell? ⟨jb,6,none⟩=some (.slice Ar lr cr)/\C.ownsRow 0 9 1 rv L X/\O.heap.size<=C.heap.size) (by kernel_rfl) (by kernel_rfl) ?_ ⟨q0,q6,E9.out,aL _⟩
        (λy1 y2 h g=>⟨df h.1 g,df h.2.1 g,bC h.2.2.1 (λk e=>g.block k (h.2.2.1.lt k e).2),fO h.2.2.2 g.size⟩) ?_
       ·intro j mk r t y Y C hr g;simp only[Free.find]at t
        repeat' split at t
        ·cases t;exact hr.below g hr.lt
        ·cases t;exact⟨bC hr.1 (λk e=>g.block k (hr.1.lt k e).2),hr.2⟩
        ·cases t
       simp only[eJ,dT];clear q0 q6;iterate 7 (first|(apply Free.ae (Free.wq rfl) rfl;(intro w' q A;obtain⟨q0,q1,q2,q3⟩:=q;clear A q2 q3;go_light;go_simp<;>rfl);(try simp only[Pt]))|(apply Free.aR rfl rfl;(intro w' q A;exact Free.cq (v:= .slice (some ⟨w'.heap.size,0,none⟩) 1 1) (w':=w'.alloc (.cells #[.string body] 9)) (by clear q A;go_light;go_simp<;>rfl) ⟨(Below.refl _ _).alloc (aL _) _,w'.heap.size,rfl,ay.new w' [.string body] 9⟩)))
       intro g6;simp only[Pt];apply Free.aR rfl rfl
       ·intro w' q A;have h6:ay w' g6 [.string body] 9:=A _ dH (by kernel_rfl);have H8:L<=1000000:=E'.out;obtain⟨m,w5,d7,i8,T⟩:=Apk.oi (P:=Tryz.prog) w' 0 137 137 9 i0 _ 1 16 Tryz.underlying137 HI.out Fd.out ro.out Fk.out rfl (by decide) rv L X q.2.2.1 ⟨g6,0,none⟩ 1 1 [.string body] rfl (λj u hu=>by rw[addr_add,nW];exact h6.ag j u hu) (λu hu=>by rw[vU.1 hu];rfl) (by unfold maxLen;omega) (by omega) (gu _) (by decide) mt.out;have co:m<18446744073709551616:=by
         obtain⟨_,h0|⟨g',rt,Hh,e',_,_,_,F',_⟩⟩:=i8
         ·exact absurd h0.2 (by omega)
         ·injection e' with _ _ e3;subst e3;unfold maxLen at F';omega
        have e1:(w'.heap.size*18446744073709551616+m) / 18446744073709551616=w'.heap.size:=by omega
        have e2:(w'.heap.size*18446744073709551616+m) % 18446744073709551616=m:=by omega
        refine Free.cq (v:= .slice (some ⟨w'.heap.size,0,none⟩) (L+1) m) (w':=w5) ?_ ⟨⟨T.os,T.tape,T.output,T.size,λk hk=>T.block k hk (by simp)⟩,w'.heap.size*18446744073709551616+m,by rw[e1,e2],by rw[e1,e2];exact⟨i8,q.2.2.2⟩⟩;exact dL (s:= .tmp 46) (x:= .tmp 48) rfl (by rw[d9.out];rfl) rfl d7
       intro y;simp only[Pt];iterate 2 (apply Free.ae (Free.wq rfl) rfl;(intro w' q A;obtain⟨q0,q1,q2,q3⟩:=q;clear A q0 q1 q2 q3;go_light;go_simp<;>rfl);(try simp only[Pt]))
       apply Free.ax;intro Q m7 hg hh;have h7:=hh _ dH;simp only at h7;obtain⟨I,wn⟩:=h7;have hz:=fC hg;have E:ay Q jb _ 189:=gc.out.below hz gc.out.lt;have f6:=E.frozen 6;have c6:=E.ag 6 _ rfl;rw[d9.out]at c6;have An:fY Q 0 (.slice (some ⟨y / 18446744073709551616,0,none⟩) (L+1) (y % 18446744073709551616)) (i++ [body.data.toList]):=by unfold fY;rw[SN.out,fu, <-EL.out];exact I
       have G:=h_ (ci Q _ (aJ.aY hz) An (λk e=> .inr (by
        have h8:y / 18446744073709551616=k:=by simpa[Value.ownBlock]using e
        omega)))
       simp only[fm,fo];clear m7 hh I wn hz E An ci hg;go_wp2_with fail;(try go_ret);exact G.out
     ·have H':(c==0)=false:=by simpa using z
      have D':Hid (R (.returned (.int .i64 c)) O):=by rw[ER.out,kw.out,if_neg z];exact⟨rfl,gt,lw,rv,⟨H.out.n4,U.out.1,K,S.out,H.out.num,H.out.hf,H.out.len,H.out.at_⟩,K3.out.mono (λk _ h=>h.elim .inl (λh=> .inr (.inr h))),U.out.2.1,U.out.2.2,λ_ h=> .inl h⟩
      clear K kw;go_wp2_with fail;(try go_ret);exact D'.out
open Go.Opn
structure PJ (we w:World) (jb b bs bm n:Nat) (pv rv:Value) (s:JS):Prop where
 j:Cc w jb b bs bm pv rv n s
 e:En we w b bs bm pv
 jb:we.heap.size<=jb
 rv:∀k,rv.ownBlock=some k->we.heap.size<=k
section
variable {we w w':World} {jb b bs bm n:Nat} {pv rv vo vo':Value} {s s':JS} {c:Int} {e:Ending} {o o':List (List UInt8)}
theorem PJ.fp(h:PJ we w jb b bs bm n pv rv s){k:Nat}(a:pD jb b bs bm pv rv k):we.heap.size<=k:=by
 rcases a with rfl|a|a
 ·exact h.jb
 ·exact h.rv k a
 ·exact h.e.f k a
theorem PJ.bD{F:Nat->Prop}(h:PJ we w jb b bs bm n pv rv s)(a:aJ F w w')(g:∀k,pD jb b bs bm pv rv k-> ¬F k)(d:∀k,F k->we.heap.size<=k):PJ we w' jb b bs bm n pv rv s:=
 ⟨h.j.bD a g,⟨h.e.t,h.e.bl.trans (a.below d h.e.bl.size),h.e.f⟩,h.jb,h.rv⟩
theorem PJ.grow(h:PJ we w jb b bs bm n pv rv s)(a:Below w.heap.size w w'):PJ we w' jb b bs bm n pv rv s:=h.bD (F:=λ_=>False) (aJ.aY a) (λ_ _ f=>f) (λ_ f=>f.elim)
theorem PJ.next(h:PJ we w jb b bs bm n pv rv s)(p:uF w jb b bs bm n pv rv (s',c) e w'):
  e= .returned (.int .i64 c)/\∃a d rv',PJ we w' jb b bs a n d rv' s'/\aJ (pD jb b bs bm pv rv) w w'/\(∀k,pD jb b bs a d rv' k->pD jb b bs bm pv rv k\/w.heap.size<=k):=by
 obtain⟨q,a,d,rv',r,l,i,u,v⟩:=p;have x:=h.e.bl.size;have m:∀k,pD jb b bs a d rv' k->pD jb b bs bm pv rv k\/w.heap.size<=k:=by
  rintro k (rfl|f|rfl|rfl|rfl|f)
  ·exact .inl (.inl rfl)
  ·exact(v k f).imp (λh=> .inr (.inl h)) id
  ·exact .inl (.inr (.inr (.inl rfl)))
  ·exact .inl (.inr (.inr (.inr (.inl rfl))))
  ·rcases i with rfl|i
   ·exact .inl (.inr (.inr (.inr (.inr (.inl rfl)))))
   ·exact .inr i
  ·exact(u k f).imp (λh=> .inr (.inr (.inr (.inr (.inr h))))) id
 have g:∀k,pD jb b bs a d rv' k->we.heap.size<=k:=λk f=>(m k f).elim (λj=>h.fp j) (λj=>by omega)
 exact⟨q,a,d,rv',⟨r,⟨h.e.t,h.e.bl.trans (l.below (λk f=>h.fp f) x),λk f=>g k (.inr (.inr f))⟩,h.jb,λk f=>g k (.inr (.inl f))⟩,l,m⟩
end
end Go.Proofs.YtkmbmfengcdmoaaGreatDoor
