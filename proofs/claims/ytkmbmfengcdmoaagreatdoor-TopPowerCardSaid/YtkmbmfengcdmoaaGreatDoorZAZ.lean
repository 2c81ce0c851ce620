/- Package journal: try around a change of the journal. No condition. -/
import Derived.Test.YtkmbmfengcdmoaaGreatDoorJoS2
import Derived.Test.YtkmbmfengcdmoaaGreatDoorZAX
set_option maxRecDepth 100000
set_option linter.all false
namespace Go.Proofs.YtkmbmfengcdmoaaGreatDoor
open Go.RowKit Go.ay Go.Jn Go.Dk Go.Mp Go.Rf Go.Shelf

section
variable {w w1 w2:World} {b bs bm n:Nat} {pv:Value} {d d0:DD}
theorem dD.refl(h:aI w b bs bm pv d n):dD w b bs bm n pv d w:=⟨bm,pv,h,aJ.refl _ _, .inl rfl,λ_ h=> .inl h⟩
theorem dD.below(h:dD w b bs bm n pv d w1)(i:Below w1.heap.size w1 w2):dD w b bs bm n pv d w2:=by obtain⟨c,g,j,k,l,m⟩:=h;exact⟨c,g,j.below i,k.trans (G:=λ_=>False) (aJ.aY i) (λ_ _ f=>f.elim),l,m⟩
theorem dD.bg{x:Nat}{cs:List Value}{T:TypeId}(l:aI w b bs bm pv d0 n)(h:dD w b bs bm n pv d w1)(c:ay w x cs T)(g:T≠135)(i:T≠5)(j:T≠203):ay w1 x cs T:=by obtain⟨f,m,_,k,_,_⟩:=h;exact c.bG (k.block x c.lt (jG l c g i j))
theorem dD.size(h:dD w b bs bm n pv d w1):w.heap.size<=w1.heap.size:=by obtain⟨c,f,_,k,_,_⟩:=h;exact k.size
theorem yq(h:dD w b bs bm n pv d w1)(s:Int)(t:ByteArray)(l:d.aF.length<1000000):Calls Tryz.prog 190 #[.pointer (some ⟨b,0,none⟩), .int .i64 s, .string t] w1 λe w'=>e= .returned (.int .i64 (DD.write n d s t.data.toList).2)/\dD w b bs bm n pv (DD.write n d s t.data.toList).1 w':=by obtain⟨f,m,g,i,j,k⟩:=h;exact(As g s t l).mono λe w' c=>⟨c.1,dD.after i j k c.2⟩
theorem Cw(h:dD w b bs bm n pv d w1):Calls Tryz.prog 191 #[.pointer (some ⟨b,0,none⟩)] w1 λe w'=>e= .returned (.int .i64 d.sync.2)/\dD w b bs bm n pv d.sync.1 w':=by obtain⟨f,l,g,i,j,k⟩:=h;exact(zL g).mono λe w' c=>⟨c.1,dD.after i j k c.2⟩
end
structure En (w0 w:World) (b bs bm:Nat) (pv:Value):Prop where
 t:cB w0
 bl:Below w0.heap.size w0 w
 f:∀k,Fp b bs bm pv k->w0.heap.size<=k
section
variable {w0 w w1:World} {b bs bm n:Nat} {pv:Value} {d:DD}
theorem En.h(e:En w0 w b bs bm pv):cB w:=e.t.below e.bl (aL _)
theorem En.toK(e:En w0 w b bs bm pv)(h:dD w b bs bm n pv d w1):cB w1:=by obtain⟨c,g,_,k,_,_⟩:=h;exact e.t.below (e.bl.trans (k.below e.f e.bl.size)) (aL _)
theorem En.grow(e:En w0 w b bs bm pv)(c:Below w.heap.size w w1):En w0 w1 b bs bm pv:=⟨e.t,e.bl.trans (c.mono e.bl.size),e.f⟩
end
def jj(w:World)(jb b bs bm n a size half len:Nat)(pv rv:Value)(br:Bool)(v:Nat×Nat×Nat)(r:DD×Int)(e:Ending)(w':World):Prop:=
 (r.2=0/\e= .returned (.tuple #[])/\(∃bm' pv',aI w' b bs bm' pv' r.1 n/\aJ (λk=>k=jb\/Fp b bs bm pv k) w w'/\(bm'=bm\/w.heap.size<=bm')/\(∀k,pv'.ownBlock=some k->pv.ownBlock=some k\/w.heap.size<=k))/\
   ay w' jb (dW (v.1+1,half,len) (1-a) size b rv br) 189)\/
  (r.2≠0/\e= .panicked (bad r.2)/\dD w b bs bm n pv r.1 w')
theorem Kg{d:DD}(h:d.sync.2=0):d.sync.1.aF= []:=by
 unfold DD.sync at h⊢;split
 ·rename_i c;rw[if_pos c]at h;split
  ·rename_i f;rw[if_pos f]at h;exact absurd h (by show ¬((21:Int)=0);decide)
  ·rfl
 ·rename_i c;rw[if_neg c]at h;exact absurd h (by show ¬((21:Int)=0);decide)
set_option maxHeartbeats 400000 in
theorem Ao{w0 w:World}{jb b bs bm n a half len:Nat}{pv rv:Value}{br:Bool}{v:Nat×Nat×Nat}{d:DD}(hd:aI w b bs bm pv d n)(hj:ay w jb (dW v a ((n-2) / 2) b rv br) 189)
  (ha:a<=1) (hh:half<=1) (hl:len<=999999) (ge:v.1<999999999) (gc:d.aF.length<1000000) (hE:En w0 w b bs bm pv):
  Calls Tryz.prog 132 #[.pointer (some ⟨jb,0,none⟩), .int .i64 (half:Int), .int .i64 (len:Int)] w (jj w jb b bs bm n a ((n-2) / 2) half len pv rv br v (mC n a v.1 half len d)):=by
 have jp:=hd.ok.n2;obtain⟨num,h0,l0⟩:=v;dsimp only at ge⊢;obtain⟨size,es⟩:=x_ ((n-2) / 2)
 rw[<-es]at hj⊢;obtain⟨R,I⟩:=x_ (jj w jb b bs bm n a size half len pv rv br (num,h0,l0) (mC n a num half len d))
 rw[<-I];obtain⟨s,C⟩:=x_ (1-a)
 have ld:(1:Int)- (a:Int)=(s:Int):=by omega
 have ES:=h_ C;have HD:=h_ hd;have HE:=h_ hE;have P:=h_ hj;have ER:=h_ I;have c3:=hj.ag 3 _ rfl;have H:=hj.ag 5 _ rfl;have BB:=h_ (λw=>sP w);obtain⟨bl,X⟩:=x_ (tx (List.replicate 32 0))
 rw[<-X]at BB;have g8:Hid (bl.data.toList=de):=by show _=_;rw[X,gH];rfl
 have i8:(Tryz.prog.info? 187).map (·.size)=some 3:=by kernel_rfl
 have TX:=h_ (λw hT=>Fi (num+1) half len w (by omega) hh hl hT);obtain⟨E,A⟩:=x_ (tx (vt (num+1) half len))
 rw[<-A]at TX;have ci:Hid ((E++E).data.toList=vt (num+1) half len++vt (num+1) half len):=by show _=_;rw[A,km,gH]
 have li:E.size<=1000:=by rw[A,ft,BV (by omega) hh hl];decide
 obtain⟨vv,Y⟩:=x_ (vt (num+1) half len++vt (num+1) half len)
 rw[<-Y]at ci;obtain⟨x,U⟩:=x_ (DD.write n d (s:Int) de)
 obtain⟨q,W⟩:=x_ x.1.sync
 obtain⟨K,e3⟩:=x_ (DD.write n q.1 (s:Int) vv)
 obtain⟨p4,e4⟩:=x_ K.1.sync
 have c:∀(d:DD) (t:List UInt8),qo n s t d=if(DD.write n d (s:Int) t).2=0 then(DD.write n d (s:Int) t).1.sync else DD.write n d (s:Int) t:=λ_ _=>rfl
 have o:mC n a num half len d=if(qo n s de d).2=0 then qo n s vv (qo n s de d).1 else qo n s de d:=by rw[Y,C];rfl
 have L:Hid (x.2≠0->∀i,dD w b bs bm n pv x.1 i->R (.panicked (bad x.2)) i):=λh i D=>by
  rw[I,o,c, <-U,if_neg h,if_neg h];exact .inr ⟨h,rfl,D⟩
 have M:Hid (x.2=0->q.2≠0->∀i,dD w b bs bm n pv q.1 i->R (.panicked (bad q.2)) i):=λZ h i D=>by
  rw[I,o,c, <-U,if_pos Z, <-W,if_neg h];exact .inr ⟨h,rfl,D⟩
 have N:Hid (x.2=0->q.2=0->K.2≠0->∀i,dD w b bs bm n pv K.1 i->R (.panicked (bad K.2)) i):=λZ h2 h i D=>by
  rw[I,o,c, <-U,if_pos Z, <-W,if_pos h2,c, <-e3,if_neg h];exact .inr ⟨h,rfl,D⟩
 have O:Hid (x.2=0->q.2=0->K.2=0->p4.2≠0->∀i,dD w b bs bm n pv p4.1 i->R (.panicked (bad p4.2)) i):=λZ h2 h3 h i D=>by
  rw[I,o,c, <-U,if_pos Z, <-W,if_pos h2,c, <-e3,if_pos h3, <-e4];exact .inr ⟨h,rfl,D⟩
 have FF:Hid (x.2=0->q.2=0->K.2=0->p4.2=0->∀i,(∃S gt,aI i b bs S gt p4.1 n/\aJ (λk=>k=jb\/Fp b bs bm pv k) w i/\(S=bm\/w.heap.size<=S)/\(∀k,gt.ownBlock=some k->pv.ownBlock=some k\/w.heap.size<=k))->
   ay i jb (dW (num+1,half,len) s size b rv br) 189->R (.returned (.tuple #[])) i):=λZ h2 h3 h4 i D hb=>by
  rw[I,o,c, <-U,if_pos Z, <-W,if_pos h2,c, <-e3,if_pos h3, <-e4];rw[C]at hb;exact .inl ⟨h4,rfl,D,hb⟩
 have W1:=h_ (fun(w1:World) (h:dD w b bs bm n pv d w1)=>yq h (s:Int) bl gc);have f9:q.2=0->q.1.aF.length<1000000:=λh=>by rw[W]at h⊢;rw[Kg h];decide
 have W3:=h_ (fun(h0:q.2=0) (wB:World) (bmB:Nat) (pvB:Value) (w1:World) (h:dD wB b bs bmB n pvB q.1 w1)=>yq h (s:Int) (E++E) (f9 h0));have S2:=h_ (fun(w1:World) (h:dD w b bs bm n pv x.1 w1)=>Cw h);have S4:=h_ (fun(wB:World) (bmB:Nat) (pvB:Value) (w1:World) (h:dD wB b bs bmB n pvB K.1 w1)=>Cw h);rw[g8.out, <-U]at W1;rw[ci.out, <-e3]at W3;rw[<-W]at S2;rw[<-e4]at S4;have D0:=h_ (dD.refl hd);clear es C hd hE hj I X U W e3 e4 c o Y A ER f9;obtain⟨d1,k1⟩:=x;obtain⟨d2,k2⟩:=q;obtain⟨d3,k3⟩:=K;obtain⟨d4,k4⟩:=p4;dsimp only at L M N O FF W1 W3 S2 S4;go_enter Tryz.func132,Tryz.ntmps132;go_wp2_with fail;refine Free.ai 6 [(5, .det (.string bl))] (λy=>Below w.heap.size w y/\y.cell? ⟨jb,5,none⟩=some (.pointer (some ⟨b,0,none⟩))) (by kernel_rfl) (by kernel_rfl) (Free.aW (λj mk r B=>by simp only[Free.find]at B;repeat' (first|cases B|split at B))) ⟨(Below.refl _ _).drew,H⟩
  (λ_ _ h g=>⟨h.1.trans (Below.mono g h.1.size),aO h.2 g⟩) ?_
 simp only[eJ,dT];iterate 5 (apply Free.ae (Free.wq rfl) rfl;(intro i J hA;obtain⟨qB,q1⟩:=J;clear hA qB;go_light;go_simp<;>rfl);(try simp only[Pt]))
 apply Free.aC (Free.wq rfl) rfl
 ·intro i J hA;refine Free.au (f:=168) (args:= #[]) (by clear J hA;go_simp<;>rfl) ?_;refine(BB.out i).mono ?_;rintro e w3 ⟨rfl,bi⟩;exact⟨_,rfl,bi,rfl⟩
 simp only[Pt];apply Free.ax;intro w1 d6 _ _;simp only[fm,fo];have D1:=h_ (D0.out.below d6.1);clear d6 c3 H BB;go_wp2_with fail;refine(W1.out _ D1.out).mono ?_;rintro e w2 ⟨rfl,d7⟩;have D2:=h_ d7;clear d7 D1 W1;by_cases z1:k1=0
 case neg=>
  have m:(k1==0)=false:=by simpa using z1
  have G:=h_ (L.out z1 _ D2.out);go_wp2_with fail;refine(gP k1 _ m).mono ?_;rintro e w3 ⟨rfl,rfl⟩;go_wp2_with fail;first
   |exact G.out
   |exact⟨rfl,G.out⟩
 have G2:=h_ (M.out z1);have G3:=h_ (N.out z1);have G4:=h_ (O.out z1);have GF:=h_ (FF.out z1);clear L M N O FF;subst z1;have H:=(D2.out.bg HD.out P.out (by decide) (by decide) (by decide)).ag 5 _ rfl;go_wp2_with fail;refine(jl _).mono ?_;rintro e w3 ⟨rfl,rfl⟩;go_wp2_with fail;refine(S2.out _ D2.out).mono ?_;rintro e w3 ⟨rfl,d8⟩;have D3:=h_ d8;clear d8 S2 D2 H;by_cases z2:k2=0
 case neg=>
  have m:(k2==0)=false:=by simpa using z2
  have G:=h_ (G2.out z2 _ D3.out);go_wp2_with fail;refine(gP k2 _ m).mono ?_;rintro e w4 ⟨rfl,rfl⟩;go_wp2_with fail;first
   |exact G.out
   |exact⟨rfl,G.out⟩
 have I3:=h_ (G3.out z2);have I4:=h_ (G4.out z2);have IF:=h_ (GF.out z2);have X3:=h_ (W3.out z2);clear G2 G3 G4 GF W3;subst z2;have c0:=(D3.out.bg HD.out P.out (by decide) (by decide) (by decide)).ag 0 _ rfl;have H:=(D3.out.bg HD.out P.out (by decide) (by decide) (by decide)).ag 5 _ rfl;dsimp only at c0;go_wp2_with fail;refine(jl _).mono ?_;rintro e w4 ⟨rfl,rfl⟩;go_wp2_with fail;obtain⟨T,g7,u1,u2,u3,u4⟩:=D3.out;obtain⟨V,eV⟩:=x_ (w3.alloc (.cells #[.int .i64 ((num:Int)+1), .int .i64 (half:Int), .int .i64 (len:Int)] 187))
 have co:Hid (Below w3.heap.size w3 V):=by rw[eV];exact(Below.refl _ w3).alloc (aL _) _
 have kV:Hid (ay V w3.heap.size [.int .i64 ((num:Int)+1), .int .i64 (half:Int), .int .i64 (len:Int)] 187):=by rw[eV];exact ay.new w3 _ _
 rw[<-eV];have DV:=h_ (u1.below co.out);have UV:Hid (aJ (Fp b bs bm pv) w V/\(T=bm\/w.heap.size<=T)/\(∀k,g7.ownBlock=some k->pv.ownBlock=some k\/w.heap.size<=k)):=⟨u2.trans (G:=λ_=>False) (aJ.aY co.out) (λ_ _ f=>f.elim),u3,u4⟩
 have D4:=h_ (dD.refl DV.out);have TW:=h_ (fun(d:DD) (i:World) (h:dD V b bs T n g7 d i)=>dD.after UV.out.1 UV.out.2.1 UV.out.2.2 h);have Q:=h_ (P.out.bG (UV.out.1.block jb P.out.lt (jG HD.out P.out (by decide) (by decide) (by decide))));have k0:=kV.out.ag 0 _ rfl;have k1:=kV.out.ag 1 _ rfl;have k2:=kV.out.ag 2 _ rfl;have c6:=Q.out.ag 5 _ rfl;clear u1 u2 u3 u4 c0 H eV;have ip:(9223372036854775807<E.size+E.size)=False:=eq_false (by omega);refine Free.ai 10 [(6, .det (.string E)),(8, .det (.string E))] (λy=>Below V.heap.size V y/\y.cell? ⟨jb,5,none⟩=some (.pointer (some ⟨b,0,none⟩))/\y.cell? ⟨w3.heap.size,0,none⟩=some (.int .i64 ((num:Int)+1))/\y.cell? ⟨w3.heap.size,1,none⟩=some (.int .i64 (half:Int))/\y.cell? ⟨w3.heap.size,2,none⟩=some (.int .i64 (len:Int))) (by kernel_rfl) (by kernel_rfl) (Free.aW (λj mk r B=>by simp only[Free.find]at B;repeat' (first|cases B|split at B))) ⟨(Below.refl _ _).drew,c6,k0,k1,k2⟩
  (λ_ _ h g=>⟨h.1.trans (Below.mono g h.1.size),aO h.2.1 g,aO h.2.2.1 g,aO h.2.2.2.1 g,aO h.2.2.2.2 g⟩) ?_
 simp only[eJ,dT];iterate 10 (first|(apply Free.aC (Free.wq rfl) rfl;(intro i J hA;refine Free.au (f:=192) (args:= #[.agg #[.int .i64 ((num:Int)+1), .int .i64 (half:Int), .int .i64 (len:Int)]]) (by clear J hA;go_simp<;>rfl) ?_;refine((TX.out i (HE.out.toK (TW.out _ _ (D4.out.below J.1))))).mono ?_;rintro e w3 ⟨rfl,bi⟩;exact⟨_,rfl,bi,rfl⟩);simp only[Pt])|(apply Free.ae (Free.wq rfl) rfl;(intro i J hA;obtain⟨qB,q1,q2,q3,q4⟩:=J;clear hA qB;go_light;go_simp<;>rfl);(try simp only[Pt])))
 apply Free.ax;intro w5 an _ _;simp only[fm,fo];have i9:=h_ an.1;have D5:=h_ (D4.out.below an.1);clear an k0 k1 k2 c6;go_wp2_with fail;refine(X3.out _ _ _ _ D5.out).mono ?_;rintro e w6 ⟨rfl,d9⟩;have D6:=h_ d9;clear d9 X3;by_cases z3:k3=0
 case neg=>
  have m:(k3==0)=false:=by simpa using z3
  have G:=h_ (I3.out z3 _ (TW.out _ _ D6.out));go_wp2_with fail;refine(gP k3 _ m).mono ?_;rintro e w7 ⟨rfl,rfl⟩;go_wp2_with fail;first
   |exact G.out
   |exact⟨rfl,G.out⟩
 have L4:=h_ (I4.out z3);have LF:=h_ (IF.out z3);clear I3 I4 IF;subst z3;have H:=(D6.out.bg DV.out Q.out (by decide) (by decide) (by decide)).ag 5 _ rfl;go_wp2_with fail;refine(jl _).mono ?_;rintro e w7 ⟨rfl,rfl⟩;go_wp2_with fail;refine(S4.out _ _ _ _ D6.out).mono ?_;rintro e w7 ⟨rfl,f8⟩;have D7:=h_ f8;clear f8 S4 D6 H;by_cases z4:k4=0
 case neg=>
  have m:(k4==0)=false:=by simpa using z4
  have G:=h_ (L4.out z4 _ (TW.out _ _ D7.out));go_wp2_with fail;refine(gP k4 _ m).mono ?_;rintro e w8 ⟨rfl,rfl⟩;go_wp2_with fail;first
   |exact G.out
   |exact⟨rfl,G.out⟩
 have MF:=h_ (LF.out z4);clear L4 LF;subst z4;have u:=D7.out.bg DV.out kV.out (by decide) (by decide) (by decide);have l:=D7.out.bg DV.out Q.out (by decide) (by decide) (by decide);have v0:=u.ag 0 _ rfl;have v1:=u.ag 1 _ rfl;have v2:=u.ag 2 _ rfl;have j0:=l.ag 0 _ rfl;have j1:=l.ag 1 _ rfl;have j2:=l.ag 2 _ rfl;have j3:=l.ag 3 _ rfl;have f0:=l.frozen 0;have f1:=l.frozen 1;have f2:=l.frozen 2;have f3:=l.frozen 3;have i':=h_ u;have dl:=h_ l;have kw:w3.heap.size≠jb:=by have:=P.out.lt;have:=D3.out.size;omega
 have z:Hid (R (.returned (.tuple #[])) ((w7.setCells jb 0 [.int .i64 ((num:Int)+1), .int .i64 (half:Int), .int .i64 (len:Int)]).setCell ⟨jb,3,none⟩ (.int .i64 (s:Int)))):=by refine MF.out _ ?_ (by have:=(RJ dl.out (.int .i64 ((num:Int)+1)) (.int .i64 (half:Int)) (.int .i64 (len:Int))).set 3 (.int .i64 (s:Int));exact this);obtain⟨ii,io,u1,u2,u3,u4⟩:=TW.out _ _ D7.out;have kk:aJ (λk=>k=jb) w7 ((w7.setCells jb 0 [.int .i64 ((num:Int)+1), .int .i64 (half:Int), .int .i64 (len:Int)]).setCell ⟨jb,3,none⟩ (.int .i64 (s:Int))):=(uZ (F:=λk=>k=jb) (aJ.refl _ w7) (λ_=>rfl) _ _ _).setCell (p:=⟨jb,3,none⟩) (λ_=>rfl) _;exact⟨ii,io,u1.bD kk (λk B e=>jG u1 dl.out (by decide) (by decide) (by decide) (e▸B)),(u2.mono (λk _ h=> .inr h)).trans kk (λk _ e=> .inl e),u3,u4⟩
 clear u l MF;go_wp2_with fail;refine(jl _).mono ?_;rintro e w8 ⟨rfl,rfl⟩;go_wp2_with fail;first
  |exact z.out
  |exact bodyPost_ret (results_none rfl _ _ _) rfl z.out
  |exact⟨_,rfl,rfl,z.out⟩
  |exact⟨_,rfl,z.out⟩
end Go.Proofs.YtkmbmfengcdmoaaGreatDoor
namespace Go.Jn
open Go Go.Dk
theorem Gr{d:DD}(h:d.sync.2=0):d.sync.1.aF= []:=by
 unfold DD.sync at h⊢;split
 ·rename_i c;rw[if_pos c]at h;split
  ·rename_i f;rw[if_pos f]at h;exact absurd h (by show ¬((21:Int)=0);decide)
  ·rfl
 ·rename_i c;rw[if_neg c]at h;exact absurd h (by show ¬((21:Int)=0);decide)
theorem pg{n base off:Nat}{text:List UInt8}:∀(g:List Nat) (d:DD),(cA n base off text g d).2=0->(cA n base off text g d).1.aF= []
 | [],d,h=>Gr h
 |k::r,d,h=>by
  unfold cA at h⊢;split
  ·rename_i c;rw[if_pos c]at h;split
   ·rename_i f;rw[if_pos f]at h;exact pg r _ h
   ·rename_i f;rw[if_neg f]at h;exact absurd h f
  ·rename_i c;rw[if_neg c]at h;exact absurd h c
theorem BJ{n base off:Nat}{text:List UInt8}{d:DD}(h:(b9 n base off text d).2=0)(f:d.aF.length<1000000):(b9 n base off text d).1.aF.length<1000000:=by
 unfold b9 at h⊢;split
 ·exact f
 ·rename_i c;rw[if_neg c]at h;rw[pg _ _ h];decide
end Go.Jn
namespace Go.Proofs.YtkmbmfengcdmoaaGreatDoor
open Go.RowKit Go.ay Go.Jn Go.Dk Go.Mp Go.Rf Go.Shelf

section
variable {w0 w w1 w2 w3 w4:World} {jb b bs bm bm1 n a size half len:Nat} {pv pv1 rv:Value} {br:Bool} {v:Nat×Nat×Nat} {r:DD×Int} {e:Ending} {d:DD}
theorem dD.sI(c:Below w.heap.size w w1)(h:dD w1 b bs bm n pv d w2):dD w b bs bm n pv d w2:=dD.after (aJ.aY c) (.inl rfl) (λ_ h=> .inl h) h
theorem jj.base(k:aJ (Fp b bs bm pv) w w3)(m:bm1=bm\/w.heap.size<=bm1)(o:∀k,pv1.ownBlock=some k->pv.ownBlock=some k\/w.heap.size<=k)(h:jj w3 jb b bs bm1 n a size half len pv1 rv br v r e w4):jj w jb b bs bm n a size half len pv rv br v r e w4:=by
 rcases h with⟨g,l,⟨c,p,u,x,y,z⟩,c4⟩|⟨g,l,q⟩
 ·refine .inl ⟨g,l,⟨c,p,u,(k.mono (λ_ _ h=> .inr h)).trans x (λi s f=>f.imp id (λf=>iY m o i s f)), ?_,λj t=> ?_⟩,c4⟩
  ·rcases y with rfl|h
   ·exact m
   ·exact .inr (fO k.size h)
  ·rcases z j t with h|h
   ·exact o j h
   ·exact .inr (fO k.size h)
 ·exact .inr ⟨g,l,dD.after k m o q⟩
theorem En.next(h:En w0 w b bs bm pv)(k:aJ (Fp b bs bm pv) w w1)(g:bm1=bm\/w.heap.size<=bm1)(i:∀k,pv1.ownBlock=some k->pv.ownBlock=some k\/w.heap.size<=k):En w0 w1 b bs bm1 pv1:=by
 have l:=h.bl.size;refine⟨h.t,h.bl.trans (k.below h.f l), ?_⟩;rintro j (rfl|rfl|rfl|e)
 ·exact h.f _ (.inl rfl)
 ·exact h.f _ (.inr (.inl rfl))
 ·rcases g with rfl|g
  ·exact h.f _ (.inr (.inr (.inl rfl)))
  ·omega
 ·rcases i j e with c|c
  ·exact h.f _ (.inr (.inr (.inr c)))
  ·omega
end
set_option maxHeartbeats 400000 in
theorem Hg{w0 w:World}{jb S T b bs bm n a:Nat}{pv rv:Value}{br:Bool}{v:Nat×Nat×Nat}{d:DD}{text:List UInt8}(W:aI w b bs bm pv d n)(hn:4<=n)(B:ay w jb (dW v a ((n-2) / 2) b rv br) 189)
  (q:ay w S [.pointer (some ⟨jb,0,none⟩)] 101) (s:ay w T [.string (tx text)] 9) (ha:a<=1) (hh:v.2.1<=1) (t:v.2.2+text.length<=32*((n-2) / 2)) (Q:v.1<999999999) (k:d.aF.length<=900000) (hE:En w0 w b bs bm pv):
  Calls Tryz.prog 130 #[.pointer (some ⟨S,0,none⟩), .pointer (some ⟨T,0,none⟩)] w (jj w jb b bs bm n a ((n-2) / 2) v.2.1 (v.2.2+text.length) pv rv br v (cy n a v.1 v.2.1 v.2.2 text d)):=by
 have ci:=W.ok.n2;obtain⟨R,eR⟩:=x_ (jj w jb b bs bm n a ((n-2) / 2) v.2.1 (v.2.2+text.length) pv rv br v (cy n a v.1 v.2.1 v.2.2 text d))
 rw[<-eR];have ER:=h_ eR;have HD:=h_ W;have HJ:=h_ B;have H1:=h_ q;have X:=h_ s;have HE:=h_ hE;have ST:=h_ (fun(w1:World) (hb:Below w.heap.size w w1)=>Gp (w:=w1) (off:=v.2.2) (text:=text) (W.below hb) hn (B.below hb B.lt) hh t k);have CM:=h_ (fun(w0 w3:World) (bm1:Nat) (pv1:Value) (d1:DD) (h1:aI w3 b bs bm1 pv1 d1 n) (h2:ay w3 jb (dW v a ((n-2) / 2) b rv br) 189) (h3:d1.aF.length<1000000) (h4:En w0 w3 b bs bm1 pv1)=>Ao (len:=v.2.2+text.length) h1 h2 ha hh (by omega) Q h3 h4);have H:=q.ag 0 _ rfl;have A:=s.ag 0 _ rfl;have C:=B.ag 1 _ rfl;have D:=B.ag 2 _ rfl;have u:=ft text;have N:v.2.2+text.length<=1000000:=by omega
 have Y:=h_ k;obtain⟨x,ex⟩:=x_ (tx text)
 rw[<-ex]at A u ST X;obtain⟨num,h,l⟩:=v;dsimp only at C D N;obtain⟨tl,I⟩:=x_ (l+text.length)
 have bi:(l:Int)+(x.size:Int)=(tl:Int):=by rw[u];omega
 have co:tl<=1000000:=by omega
 have E:=h_ I;clear u;clear eR W B q s hE ex k I N;go_enter Tryz.func130,Tryz.ntmps130;go_wp2_with fail;refine Free.ai 12 [] (λy=>Below w.heap.size w y/\y.cell? ⟨S,0,none⟩=some (.pointer (some ⟨jb,0,none⟩))/\y.cell? ⟨T,0,none⟩=some (.string x)/\y.cell? ⟨jb,1,none⟩=some (.int .i64 (h:Int))/\y.cell? ⟨jb,2,none⟩=some (.int .i64 (l:Int))) (by kernel_rfl) (by kernel_rfl) (Free.aW (λj mk r hf=>by cases hf)) ⟨(Below.refl _ _).drew,H,A,C,D⟩
  (λ_ _ h g=>⟨h.1.trans (Below.mono g h.1.size),aO h.2.1 g,aO h.2.2.1 g,aO h.2.2.2.1 g,aO h.2.2.2.2 g⟩) ?_
 simp only[eJ,dT];iterate 12 (apply Free.ae (Free.wq rfl) rfl;(intro w' hB hA;obtain⟨qB,q1,q2,q3,q4⟩:=hB;clear hA qB;go_light;go_simp<;>rfl);(try simp only[Pt]))
 apply Free.ax;intro w1 L _ _;simp only[fm,fo];have c:=h_ L.1;clear L H A C D;go_wp2_with fail;refine(ST.out _ c.out).mono ?_;rintro e w2 ⟨i,⟨z,rfl⟩|⟨z,rfl⟩⟩
 ·have p:=HD.out.below c.out;have o:=i.bg p (HJ.out.below c.out HJ.out.lt) (by decide) (by decide) (by decide);have J:=i.bg p (H1.out.below c.out H1.out.lt) (by decide) (by decide) (by decide);have K:=i.bg p (X.out.below c.out X.out.lt) (by decide) (by decide) (by decide);obtain⟨Z,an,u1,u2,u3,u4⟩:=i.sI c.out;have U:=h_ (And.intro u1 (And.intro u2 (And.intro u3 u4)));have P:=BJ z (by have:=Y.out;omega);have CC:=h_ (fun(w3:World) (hb:Below w2.heap.size w2 w3)=>CM.out w0 w3 Z an _ (u1.below hb) (o.below hb o.lt) P ((HE.out.next u2 u3 u4).grow hb));have V:cy n a num h l text d=mC n a num h (l+text.length) (b9 n (2+h*((n-2) / 2)) l text d).1:=by unfold cy;rw[if_pos z]
  have EC:=h_ V;have H:=J.ag 0 _ rfl;have A:=K.ag 0 _ rfl;have C:=o.ag 1 _ rfl;have D:=o.ag 2 _ rfl;rw[<-E.out]at CC;clear i z p o J K u1 u2 u3 u4 P V;go_wp2_with fail;refine Free.ai 14 [] (λy=>Below w2.heap.size w2 y/\y.cell? ⟨S,0,none⟩=some (.pointer (some ⟨jb,0,none⟩))/\y.cell? ⟨T,0,none⟩=some (.string x)/\y.cell? ⟨jb,1,none⟩=some (.int .i64 (h:Int))/\y.cell? ⟨jb,2,none⟩=some (.int .i64 (l:Int))) (by kernel_rfl) (by kernel_rfl) (Free.aW (λj mk r hf=>by cases hf)) ⟨(Below.refl _ _).drew,H,A,C,D⟩
   (λ_ _ h g=>⟨h.1.trans (Below.mono g h.1.size),aO h.2.1 g,aO h.2.2.1 g,aO h.2.2.2.1 g,aO h.2.2.2.2 g⟩) ?_
  simp only[eJ,dT];iterate 14 (apply Free.ae (Free.wq rfl) rfl;(intro w' hB hA;obtain⟨qB,q1,q2,q3,q4⟩:=hB;clear hA qB;go_light;go_simp<;>rfl);(try simp only[Pt]))
  apply Free.ax;intro w3 M _ _;simp only[fm,fo];have F:=h_ M.1;clear M H A C D;go_wp2_with fail;refine(CC.out _ F.out).mono ?_;intro e w4 O;have m:=jj.base (U.out.2.1.trans (G:=λ_=>False) (aJ.aY F.out) (λ_ _ f=>f.elim)) U.out.2.2.1 U.out.2.2.2 O;have G:Hid (R e w4):=by rw[ER.out];show jj w jb b bs bm n a ((n-2) / 2) h (l+text.length) pv rv br (num,h,l) (cy n a num h l text d) _ _;rw[EC.out, <-E.out];exact m
  rcases O with⟨_,rfl,_⟩|⟨_,rfl,_⟩
  ·clear m;go_wp2_with fail
   go_end0
   exact G.out
  ·clear m;go_wp2_with fail;first
    |exact G.out
    |exact⟨rfl,G.out⟩
 ·have G:Hid (R (.panicked (bad (b9 n (2+h*((n-2) / 2)) l text d).2)) w2):=by
   rw[ER.out];have V:cy n a num h l text d=b9 n (2+h*((n-2) / 2)) l text d:=by unfold cy;rw[if_neg z]
   show jj w jb b bs bm n a ((n-2) / 2) h (l+text.length) pv rv br (num,h,l) (cy n a num h l text d) _ _;rw[V];exact .inr ⟨z,rfl,i.sI c.out⟩
  clear i z;go_wp2_with fail;first
   |exact G.out
   |exact⟨rfl,G.out⟩
def z8(w:World)(jb b bs bm n a size half len:Nat)(pv rv:Value)(v:Nat×Nat×Nat)(r:DD×Int)(e:Ending)(w':World):Prop:=
 e= .returned (.int .i64 r.2)/\(∃bm' pv',aI w' b bs bm' pv' r.1 n/\aJ (λk=>k=jb\/Fp b bs bm pv k) w w'/\(bm'=bm\/w.heap.size<=bm')/\(∀k,pv'.ownBlock=some k->pv.ownBlock=some k\/w.heap.size<=k))/\
  ((r.2=0/\ay w' jb (dW (v.1+1,half,len) (1-a) size b rv false) 189)\/(r.2≠0/\ay w' jb (dW v a size b rv true) 189))
theorem Pk{w:World}{jb g b bs bm n a size half len:Nat}{cb:Array Value}{pv rv:Value}{v:Nat×Nat×Nat}{d:DD}{r:DD×Int}(K:aI w b bs bm pv d n)(H:ay w jb (dW v a size b rv false) 189)(I:∀args w,(callFunc g args).run Tryz.prog w= .ok (.enter g args) w)
  (C:∀W,Below w.heap.size w W->Calls Tryz.prog g cb W (jj W jb b bs bm n a size half len pv rv false v r)):
  Calls Tryz.prog 102 #[.pointer (some ⟨jb,0,none⟩), .func (.func g) #[] cb] w (z8 w jb b bs bm n a size half len pv rv v r):=by
 have q:jb<w.heap.size:=H.lt;obtain⟨W,o⟩:=x_ ((w.alloc (.cells #[.pointer (some ⟨jb,0,none⟩)] 101)).alloc (.cells #[.int .i64 0] 52))
 have m:Below w.heap.size w W:=by rw[o];exact((Below.refl _ w).alloc (aL _) _).alloc (by simp) _
 have y:ay W w.heap.size [.pointer (some ⟨jb,0,none⟩)] 101:=by rw[o];exact(ay.new w _ _).alloc _
 have z:ay W (w.heap.size+1) [.int .i64 0] 52:=by rw[o];exact ay.made (by simp) rfl
 have c:=K.below m;have A:=H.below m q;have J:W.heap.size=w.heap.size+2:=by rw[o];simp
 refine DP (z8 w jb b bs bm n a size half len pv rv v r) I q ?_;rw[<-o];refine(C W m).mono ?_;rintro e w' (⟨c1,rfl,⟨i,j,l,t,E,G⟩,c4⟩|⟨c1,rfl,c3⟩)
 ·have D:=y.bG (t.block _ y.lt (λh=>h.elim (λh=>by omega) (jG c y (by decide) (by decide) (by decide))));have s:=z.bG (t.block _ z.lt (λh=>h.elim (λh=>by omega) (jG c z (by decide) (by decide) (by decide))));refine⟨D,s, .inl ⟨rfl,by rw[c1],⟨i,j, ?_, ?_, ?_,λk B=> ?_⟩, .inl ⟨c1,c4.cL (a:=⟨w.heap.size+1,0,none⟩) (by show w.heap.size+1≠jb;omega) _⟩⟩⟩
  ·exact l.bD ((aJ.refl (λk=>k=w.heap.size+1) w').setCell (p:=⟨w.heap.size+1,0,none⟩) (λ_=>rfl) _) (λk u e=>jG l s (by decide) (by decide) (by decide) (e▸u))
  ·exact(aJ.trans (F:=λk=>k=jb\/Fp b bs bm pv k) (aJ.aY m) t (λ_ _ f=>f)).setCell (p:=⟨w.heap.size+1,0,none⟩) (λh=>absurd h (by show ¬w.heap.size+1<w.heap.size;omega)) _
  ·exact E.imp id (λh=>by omega)
  ·exact(G k B).imp id (λh=>by omega)
 ·have D:=c3.bg c y (by decide) (by decide) (by decide);have s:=c3.bg c z (by decide) (by decide) (by decide);have x:=c3.bg c A (by decide) (by decide) (by decide);obtain⟨i,j,l,t,E,G⟩:=c3;refine⟨D,s, .inr ⟨r.2,rfl,x.ag 7 _ rfl,x.frozen 7,rfl,⟨i,j, ?_, ?_, ?_,λk B=> ?_⟩, .inr ⟨c1, ?_⟩⟩⟩
  ·refine l.bD (F:=λk=>k=jb\/k=w.heap.size+1) ((((aJ.refl (λk=>k=jb\/k=w.heap.size+1) w').setCell (p:=⟨jb,7,none⟩) (λ_=> .inl rfl) _).setCell (p:=⟨w.heap.size+1,0,none⟩) (λ_=> .inr rfl) _).setCell (p:=⟨w.heap.size+1,0,none⟩) (λ_=> .inr rfl) _) (λk u e=> ?_);rcases e with e|e
   ·exact jG l x (by decide) (by decide) (by decide) (e▸u)
   ·exact jG l s (by decide) (by decide) (by decide) (e▸u)
  ·have L:aJ (λk=>k=jb\/Fp b bs bm pv k) w w':=aJ.trans (F:=λk=>k=jb\/Fp b bs bm pv k) (aJ.aY m) t (λ_ _ f=> .inr f);exact((L.setCell (p:=⟨jb,7,none⟩) (λ_=> .inl rfl) _).setCell (p:=⟨w.heap.size+1,0,none⟩) (λh=>absurd h (by show ¬w.heap.size+1<w.heap.size;omega)) _).setCell (p:=⟨w.heap.size+1,0,none⟩) (λh=>absurd h (by show ¬w.heap.size+1<w.heap.size;omega)) _
  ·exact E.imp id (λh=>by omega)
  ·exact(G k B).imp id (λh=>by omega)
  ·exact((x.set 7 (.bool true)).cL (a:=⟨w.heap.size+1,0,none⟩) (by show w.heap.size+1≠jb;omega) _).cL (a:=⟨w.heap.size+1,0,none⟩) (by show w.heap.size+1≠jb;omega) _
end Go.Proofs.YtkmbmfengcdmoaaGreatDoor
