/- Package journal: try around a change of the journal. No condition. -/
import Derived.Test.YtkmbmfengcdmoaaGreatDoorJoS2
import Derived.Test.YtkmbmfengcdmoaaGreatDoorZAW
set_option maxRecDepth 100000
set_option linter.all false
namespace Go.Proofs.YtkmbmfengcdmoaaGreatDoor
open Go.RowKit Go.ay Go.Jn Go.Dk Go.Mp Go.Rf Go.Shelf

section
variable {w w1 w2:World} {b bs bm n:Nat} {pv:Value} {d d0:DD}
theorem dD.refl(h:aI w b bs bm pv d n):dD w b bs bm n pv d w:=⟨bm,pv,h,aJ.refl _ _, .inl rfl,λ_ h=> .inl h⟩
theorem dD.below(h:dD w b bs bm n pv d w1)(hb:Below w1.heap.size w1 w2):dD w b bs bm n pv d w2:=by obtain⟨bm',pv',h1,h2,h3,h4⟩:=h;exact⟨bm',pv',h1.below hb,h2.trans (G:=λ_=>False) (aJ.aY hb) (λ_ _ f=>f.elim),h3,h4⟩
theorem dD.bg{x:Nat}{cs:List Value}{T:TypeId}(hd:aI w b bs bm pv d0 n)(h:dD w b bs bm n pv d w1)(hx:ay w x cs T)(h1:T≠135)(h2:T≠5)(h3:T≠203):ay w1 x cs T:=by obtain⟨bm',pv',_,k,_,_⟩:=h;exact hx.bG (k.block x hx.lt (jG hd hx h1 h2 h3))
theorem dD.size(h:dD w b bs bm n pv d w1):w.heap.size<=w1.heap.size:=by obtain⟨bm',pv',_,k,_,_⟩:=h;exact k.size
theorem yq(h:dD w b bs bm n pv d w1)(s:Int)(t:ByteArray)(hf:d.aF.length<1000000):Calls Tryz.prog 190 #[.pointer (some ⟨b,0,none⟩), .int .i64 s, .string t] w1 λe w'=>e= .returned (.int .i64 (DD.write n d s t.data.toList).2)/\dD w b bs bm n pv (DD.write n d s t.data.toList).1 w':=by obtain⟨bm',pv',h1,h2,h3,h4⟩:=h;exact(As h1 s t hf).mono λe w' hp=>⟨hp.1,dD.after h2 h3 h4 hp.2⟩
theorem Cw(h:dD w b bs bm n pv d w1):Calls Tryz.prog 191 #[.pointer (some ⟨b,0,none⟩)] w1 λe w'=>e= .returned (.int .i64 d.sync.2)/\dD w b bs bm n pv d.sync.1 w':=by obtain⟨bm',pv',h1,h2,h3,h4⟩:=h;exact(zL h1).mono λe w' hp=>⟨hp.1,dD.after h2 h3 h4 hp.2⟩
end
structure En (w0 w:World) (b bs bm:Nat) (pv:Value):Prop where
 t:cB w0
 bl:Below w0.heap.size w0 w
 f:∀k,Fp b bs bm pv k->w0.heap.size<=k
section
variable {w0 w w1:World} {b bs bm n:Nat} {pv:Value} {d:DD}
theorem En.h(e:En w0 w b bs bm pv):cB w:=e.t.below e.bl (aL _)
theorem En.toK(e:En w0 w b bs bm pv)(h:dD w b bs bm n pv d w1):cB w1:=by obtain⟨bm',pv',_,k,_,_⟩:=h;exact e.t.below (e.bl.trans (k.below e.f e.bl.size)) (aL _)
theorem En.grow(e:En w0 w b bs bm pv)(hb:Below w.heap.size w w1):En w0 w1 b bs bm pv:=⟨e.t,e.bl.trans (hb.mono e.bl.size),e.f⟩
end
def jj(w:World)(jb b bs bm n a size half len:Nat)(pv rv:Value)(br:Bool)(v:Nat×Nat×Nat)(r:DD×Int)(e:Ending)(w':World):Prop:=
 (r.2=0/\e= .returned (.tuple #[])/\(∃bm' pv',aI w' b bs bm' pv' r.1 n/\aJ (λk=>k=jb\/Fp b bs bm pv k) w w'/\(bm'=bm\/w.heap.size<=bm')/\(∀k,pv'.ownBlock=some k->pv.ownBlock=some k\/w.heap.size<=k))/\
   ay w' jb (dW (v.1+1,half,len) (1-a) size b rv br) 189)\/
  (r.2≠0/\e= .panicked (bad r.2)/\dD w b bs bm n pv r.1 w')
theorem Kg{d:DD}(h:d.sync.2=0):d.sync.1.aF= []:=by
 unfold DD.sync at h⊢;split
 ·rename_i h2;rw[if_pos h2]at h;split
  ·rename_i h3;rw[if_pos h3]at h;exact absurd h (by show ¬((21:Int)=0);decide)
  ·rfl
 ·rename_i h2;rw[if_neg h2]at h;exact absurd h (by show ¬((21:Int)=0);decide)
set_option maxHeartbeats 400000 in
theorem Ao{w0 w:World}{jb b bs bm n a half len:Nat}{pv rv:Value}{br:Bool}{v:Nat×Nat×Nat}{d:DD}(hd:aI w b bs bm pv d n)(hj:ay w jb (dW v a ((n-2) / 2) b rv br) 189)
  (ha:a<=1) (hh:half<=1) (hl:len<=999999) (hnum:v.1<999999999) (hfew:d.aF.length<1000000) (hE:En w0 w b bs bm pv):
  Calls Tryz.prog 132 #[.pointer (some ⟨jb,0,none⟩), .int .i64 (half:Int), .int .i64 (len:Int)] w (jj w jb b bs bm n a ((n-2) / 2) half len pv rv br v (mC n a v.1 half len d)):=by
 have hn2:=hd.ok.n2;obtain⟨num,h0,l0⟩:=v;dsimp only at hnum⊢;obtain⟨size,es⟩:=x_ ((n-2) / 2)
 rw[<-es]at hj⊢;obtain⟨R,eR⟩:=x_ (jj w jb b bs bm n a size half len pv rv br (num,h0,l0) (mC n a num half len d))
 rw[<-eR];obtain⟨s,hse⟩:=x_ (1-a)
 have hsi:(1:Int)- (a:Int)=(s:Int):=by omega
 have ES:=h_ hse;have HD:=h_ hd;have HE:=h_ hE;have HJ:=h_ hj;have ER:=h_ eR;have c3:=hj.ag 3 _ rfl;have c5:=hj.ag 5 _ rfl;have BB:=h_ (λw=>sP w);obtain⟨bl,ebl⟩:=x_ (tx (List.replicate 32 0))
 rw[<-ebl]at BB;have EBL:Hid (bl.data.toList=de):=by show _=_;rw[ebl,gH];rfl
 have hval:(Tryz.prog.info? 187).map (·.size)=some 3:=by kernel_rfl
 have TX:=h_ (λw hT=>Fi (num+1) half len w (by omega) hh hl hT);obtain⟨tv,etv⟩:=x_ (tx (vt (num+1) half len))
 rw[<-etv]at TX;have ETV:Hid ((tv++tv).data.toList=vt (num+1) half len++vt (num+1) half len):=by show _=_;rw[etv,km,gH]
 have htv:tv.size<=1000:=by rw[etv,ft,BV (by omega) hh hl];decide
 obtain⟨vv,evv⟩:=x_ (vt (num+1) half len++vt (num+1) half len)
 rw[<-evv]at ETV;obtain⟨p1,e1⟩:=x_ (DD.write n d (s:Int) de)
 obtain⟨p2,e2⟩:=x_ p1.1.sync
 obtain⟨p3,e3⟩:=x_ (DD.write n p2.1 (s:Int) vv)
 obtain⟨p4,e4⟩:=x_ p3.1.sync
 have hput:∀(d:DD) (t:List UInt8),qo n s t d=if(DD.write n d (s:Int) t).2=0 then(DD.write n d (s:Int) t).1.sync else DD.write n d (s:Int) t:=λ_ _=>rfl
 have hcm:mC n a num half len d=if(qo n s de d).2=0 then qo n s vv (qo n s de d).1 else qo n s de d:=by rw[evv,hse];rfl
 have FB1:Hid (p1.2≠0->∀w',dD w b bs bm n pv p1.1 w'->R (.panicked (bad p1.2)) w'):=λh w' hw=>by
  rw[eR,hcm,hput, <-e1,if_neg h,if_neg h];exact .inr ⟨h,rfl,hw⟩
 have FB2:Hid (p1.2=0->p2.2≠0->∀w',dD w b bs bm n pv p2.1 w'->R (.panicked (bad p2.2)) w'):=λh1 h w' hw=>by
  rw[eR,hcm,hput, <-e1,if_pos h1, <-e2,if_neg h];exact .inr ⟨h,rfl,hw⟩
 have FB3:Hid (p1.2=0->p2.2=0->p3.2≠0->∀w',dD w b bs bm n pv p3.1 w'->R (.panicked (bad p3.2)) w'):=λh1 h2 h w' hw=>by
  rw[eR,hcm,hput, <-e1,if_pos h1, <-e2,if_pos h2,hput, <-e3,if_neg h];exact .inr ⟨h,rfl,hw⟩
 have FB4:Hid (p1.2=0->p2.2=0->p3.2=0->p4.2≠0->∀w',dD w b bs bm n pv p4.1 w'->R (.panicked (bad p4.2)) w'):=λh1 h2 h3 h w' hw=>by
  rw[eR,hcm,hput, <-e1,if_pos h1, <-e2,if_pos h2,hput, <-e3,if_pos h3, <-e4];exact .inr ⟨h,rfl,hw⟩
 have FF:Hid (p1.2=0->p2.2=0->p3.2=0->p4.2=0->∀w',(∃bm' pv',aI w' b bs bm' pv' p4.1 n/\aJ (λk=>k=jb\/Fp b bs bm pv k) w w'/\(bm'=bm\/w.heap.size<=bm')/\(∀k,pv'.ownBlock=some k->pv.ownBlock=some k\/w.heap.size<=k))->
   ay w' jb (dW (num+1,half,len) s size b rv br) 189->R (.returned (.tuple #[])) w'):=λh1 h2 h3 h4 w' hw hb=>by
  rw[eR,hcm,hput, <-e1,if_pos h1, <-e2,if_pos h2,hput, <-e3,if_pos h3, <-e4];rw[hse]at hb;exact .inl ⟨h4,rfl,hw,hb⟩
 have W1:=h_ (fun(w1:World) (h:dD w b bs bm n pv d w1)=>yq h (s:Int) bl hfew);have hf2:p2.2=0->p2.1.aF.length<1000000:=λh=>by rw[e2]at h⊢;rw[Kg h];decide
 have W3:=h_ (fun(h0:p2.2=0) (wB:World) (bmB:Nat) (pvB:Value) (w1:World) (h:dD wB b bs bmB n pvB p2.1 w1)=>yq h (s:Int) (tv++tv) (hf2 h0));have S2:=h_ (fun(w1:World) (h:dD w b bs bm n pv p1.1 w1)=>Cw h);have S4:=h_ (fun(wB:World) (bmB:Nat) (pvB:Value) (w1:World) (h:dD wB b bs bmB n pvB p3.1 w1)=>Cw h);rw[EBL.out, <-e1]at W1;rw[ETV.out, <-e3]at W3;rw[<-e2]at S2;rw[<-e4]at S4;have D0:=h_ (dD.refl hd);clear es hse hd hE hj eR ebl e1 e2 e3 e4 hput hcm evv etv ER hf2;obtain⟨d1,k1⟩:=p1;obtain⟨d2,k2⟩:=p2;obtain⟨d3,k3⟩:=p3;obtain⟨d4,k4⟩:=p4;dsimp only at FB1 FB2 FB3 FB4 FF W1 W3 S2 S4;go_enter Tryz.func132,Tryz.ntmps132;go_wp2_with fail;refine Free.ai 6 [(5, .det (.string bl))] (λy=>Below w.heap.size w y/\y.cell? ⟨jb,5,none⟩=some (.pointer (some ⟨b,0,none⟩))) (by kernel_rfl) (by kernel_rfl) (Free.aW (λj mk r hf=>by simp only[Free.find]at hf;repeat' (first|cases hf|split at hf))) ⟨(Below.refl _ _).drew,c5⟩
  (λ_ _ h g=>⟨h.1.trans (Below.mono g h.1.size),aO h.2 g⟩) ?_
 simp only[eJ,dT];iterate 5 (apply Free.ae (Free.wq rfl) rfl;(intro w' hB hA;obtain⟨qB,q1⟩:=hB;clear hA qB;go_light;go_simp<;>rfl);(try simp only[Pt]))
 apply Free.aC (Free.wq rfl) rfl
 ·intro w' hB hA;refine Free.au (f:=168) (args:= #[]) (by clear hB hA;go_simp<;>rfl) ?_;refine(BB.out w').mono ?_;rintro e w3 ⟨rfl,hb3⟩;exact⟨_,rfl,hb3,rfl⟩
 simp only[Pt];apply Free.ax;intro w1 hB1 _ _;simp only[fm,fo];have D1:=h_ (D0.out.below hB1.1);clear hB1 c3 c5 BB;go_wp2_with fail;refine(W1.out _ D1.out).mono ?_;rintro e w2 ⟨rfl,hd2⟩;have D2:=h_ hd2;clear hd2 D1 W1;by_cases z1:k1=0
 case neg=>
  have hcb:(k1==0)=false:=by simpa using z1
  have G:=h_ (FB1.out z1 _ D2.out);go_wp2_with fail;refine(gP k1 _ hcb).mono ?_;rintro e w3 ⟨rfl,rfl⟩;go_wp2_with fail;first
   |exact G.out
   |exact⟨rfl,G.out⟩
 have G2:=h_ (FB2.out z1);have G3:=h_ (FB3.out z1);have G4:=h_ (FB4.out z1);have GF:=h_ (FF.out z1);clear FB1 FB2 FB3 FB4 FF;subst z1;have c5:=(D2.out.bg HD.out HJ.out (by decide) (by decide) (by decide)).ag 5 _ rfl;go_wp2_with fail;refine(jl _).mono ?_;rintro e w3 ⟨rfl,rfl⟩;go_wp2_with fail;refine(S2.out _ D2.out).mono ?_;rintro e w3 ⟨rfl,hd3⟩;have D3:=h_ hd3;clear hd3 S2 D2 c5;by_cases z2:k2=0
 case neg=>
  have hcb:(k2==0)=false:=by simpa using z2
  have G:=h_ (G2.out z2 _ D3.out);go_wp2_with fail;refine(gP k2 _ hcb).mono ?_;rintro e w4 ⟨rfl,rfl⟩;go_wp2_with fail;first
   |exact G.out
   |exact⟨rfl,G.out⟩
 have I3:=h_ (G3.out z2);have I4:=h_ (G4.out z2);have IF:=h_ (GF.out z2);have X3:=h_ (W3.out z2);clear G2 G3 G4 GF W3;subst z2;have c0:=(D3.out.bg HD.out HJ.out (by decide) (by decide) (by decide)).ag 0 _ rfl;have c5:=(D3.out.bg HD.out HJ.out (by decide) (by decide) (by decide)).ag 5 _ rfl;dsimp only at c0;go_wp2_with fail;refine(jl _).mono ?_;rintro e w4 ⟨rfl,rfl⟩;go_wp2_with fail;obtain⟨bm3,pv3,u1,u2,u3,u4⟩:=D3.out;obtain⟨V,eV⟩:=x_ (w3.alloc (.cells #[.int .i64 ((num:Int)+1), .int .i64 (half:Int), .int .i64 (len:Int)] 187))
 have HBV:Hid (Below w3.heap.size w3 V):=by rw[eV];exact(Below.refl _ w3).alloc (aL _) _
 have kV:Hid (ay V w3.heap.size [.int .i64 ((num:Int)+1), .int .i64 (half:Int), .int .i64 (len:Int)] 187):=by rw[eV];exact ay.new w3 _ _
 rw[<-eV];have DV:=h_ (u1.below HBV.out);have UV:Hid (aJ (Fp b bs bm pv) w V/\(bm3=bm\/w.heap.size<=bm3)/\(∀k,pv3.ownBlock=some k->pv.ownBlock=some k\/w.heap.size<=k)):=⟨u2.trans (G:=λ_=>False) (aJ.aY HBV.out) (λ_ _ f=>f.elim),u3,u4⟩
 have D4:=h_ (dD.refl DV.out);have TW:=h_ (fun(d:DD) (w':World) (h:dD V b bs bm3 n pv3 d w')=>dD.after UV.out.1 UV.out.2.1 UV.out.2.2 h);have HJV:=h_ (HJ.out.bG (UV.out.1.block jb HJ.out.lt (jG HD.out HJ.out (by decide) (by decide) (by decide))));have k0:=kV.out.ag 0 _ rfl;have k1:=kV.out.ag 1 _ rfl;have k2:=kV.out.ag 2 _ rfl;have c6:=HJV.out.ag 5 _ rfl;clear u1 u2 u3 u4 c0 c5 eV;have hcat:(9223372036854775807<tv.size+tv.size)=False:=eq_false (by omega);refine Free.ai 10 [(6, .det (.string tv)),(8, .det (.string tv))] (λy=>Below V.heap.size V y/\y.cell? ⟨jb,5,none⟩=some (.pointer (some ⟨b,0,none⟩))/\y.cell? ⟨w3.heap.size,0,none⟩=some (.int .i64 ((num:Int)+1))/\y.cell? ⟨w3.heap.size,1,none⟩=some (.int .i64 (half:Int))/\y.cell? ⟨w3.heap.size,2,none⟩=some (.int .i64 (len:Int))) (by kernel_rfl) (by kernel_rfl) (Free.aW (λj mk r hf=>by simp only[Free.find]at hf;repeat' (first|cases hf|split at hf))) ⟨(Below.refl _ _).drew,c6,k0,k1,k2⟩
  (λ_ _ h g=>⟨h.1.trans (Below.mono g h.1.size),aO h.2.1 g,aO h.2.2.1 g,aO h.2.2.2.1 g,aO h.2.2.2.2 g⟩) ?_
 simp only[eJ,dT];iterate 10 (first|(apply Free.aC (Free.wq rfl) rfl;(intro w' hB hA;refine Free.au (f:=192) (args:= #[.agg #[.int .i64 ((num:Int)+1), .int .i64 (half:Int), .int .i64 (len:Int)]]) (by clear hB hA;go_simp<;>rfl) ?_;refine((TX.out w' (HE.out.toK (TW.out _ _ (D4.out.below hB.1))))).mono ?_;rintro e w3 ⟨rfl,hb3⟩;exact⟨_,rfl,hb3,rfl⟩);simp only[Pt])|(apply Free.ae (Free.wq rfl) rfl;(intro w' hB hA;obtain⟨qB,q1,q2,q3,q4⟩:=hB;clear hA qB;go_light;go_simp<;>rfl);(try simp only[Pt])))
 apply Free.ax;intro w5 hB5 _ _;simp only[fm,fo];have HB5:=h_ hB5.1;have D5:=h_ (D4.out.below hB5.1);clear hB5 k0 k1 k2 c6;go_wp2_with fail;refine(X3.out _ _ _ _ D5.out).mono ?_;rintro e w6 ⟨rfl,hd6⟩;have D6:=h_ hd6;clear hd6 X3;by_cases z3:k3=0
 case neg=>
  have hcb:(k3==0)=false:=by simpa using z3
  have G:=h_ (I3.out z3 _ (TW.out _ _ D6.out));go_wp2_with fail;refine(gP k3 _ hcb).mono ?_;rintro e w7 ⟨rfl,rfl⟩;go_wp2_with fail;first
   |exact G.out
   |exact⟨rfl,G.out⟩
 have L4:=h_ (I4.out z3);have LF:=h_ (IF.out z3);clear I3 I4 IF;subst z3;have c5:=(D6.out.bg DV.out HJV.out (by decide) (by decide) (by decide)).ag 5 _ rfl;go_wp2_with fail;refine(jl _).mono ?_;rintro e w7 ⟨rfl,rfl⟩;go_wp2_with fail;refine(S4.out _ _ _ _ D6.out).mono ?_;rintro e w7 ⟨rfl,hd7⟩;have D7:=h_ hd7;clear hd7 S4 D6 c5;by_cases z4:k4=0
 case neg=>
  have hcb:(k4==0)=false:=by simpa using z4
  have G:=h_ (L4.out z4 _ (TW.out _ _ D7.out));go_wp2_with fail;refine(gP k4 _ hcb).mono ?_;rintro e w8 ⟨rfl,rfl⟩;go_wp2_with fail;first
   |exact G.out
   |exact⟨rfl,G.out⟩
 have MF:=h_ (LF.out z4);clear L4 LF;subst z4;have hv7:=D7.out.bg DV.out kV.out (by decide) (by decide) (by decide);have hj7:=D7.out.bg DV.out HJV.out (by decide) (by decide) (by decide);have v0:=hv7.ag 0 _ rfl;have v1:=hv7.ag 1 _ rfl;have v2:=hv7.ag 2 _ rfl;have j0:=hj7.ag 0 _ rfl;have j1:=hj7.ag 1 _ rfl;have j2:=hj7.ag 2 _ rfl;have j3:=hj7.ag 3 _ rfl;have f0:=hj7.frozen 0;have f1:=hj7.frozen 1;have f2:=hj7.frozen 2;have f3:=hj7.frozen 3;have HV7:=h_ hv7;have HJ7:=h_ hj7;have hne:w3.heap.size≠jb:=by have:=HJ.out.lt;have:=D3.out.size;omega
 have FIN:Hid (R (.returned (.tuple #[])) ((w7.setCells jb 0 [.int .i64 ((num:Int)+1), .int .i64 (half:Int), .int .i64 (len:Int)]).setCell ⟨jb,3,none⟩ (.int .i64 (s:Int)))):=by refine MF.out _ ?_ (by have:=(RJ HJ7.out (.int .i64 ((num:Int)+1)) (.int .i64 (half:Int)) (.int .i64 (len:Int))).set 3 (.int .i64 (s:Int));exact this);obtain⟨bm7,pv7,u1,u2,u3,u4⟩:=TW.out _ _ D7.out;have kk:aJ (λk=>k=jb) w7 ((w7.setCells jb 0 [.int .i64 ((num:Int)+1), .int .i64 (half:Int), .int .i64 (len:Int)]).setCell ⟨jb,3,none⟩ (.int .i64 (s:Int))):=(uZ (F:=λk=>k=jb) (aJ.refl _ w7) (λ_=>rfl) _ _ _).setCell (p:=⟨jb,3,none⟩) (λ_=>rfl) _;exact⟨bm7,pv7,u1.bD kk (λk hf e=>jG u1 HJ7.out (by decide) (by decide) (by decide) (e▸hf)),(u2.mono (λk _ h=> .inr h)).trans kk (λk _ e=> .inl e),u3,u4⟩
 clear hv7 hj7 MF;go_wp2_with fail;refine(jl _).mono ?_;rintro e w8 ⟨rfl,rfl⟩;go_wp2_with fail;first
  |exact FIN.out
  |exact bodyPost_ret (results_none rfl _ _ _) rfl FIN.out
  |exact⟨_,rfl,rfl,FIN.out⟩
  |exact⟨_,rfl,FIN.out⟩
end Go.Proofs.YtkmbmfengcdmoaaGreatDoor
namespace Go.Jn
open Go Go.Dk
theorem Gr{d:DD}(h:d.sync.2=0):d.sync.1.aF= []:=by
 unfold DD.sync at h⊢;split
 ·rename_i h2;rw[if_pos h2]at h;split
  ·rename_i h3;rw[if_pos h3]at h;exact absurd h (by show ¬((21:Int)=0);decide)
  ·rfl
 ·rename_i h2;rw[if_neg h2]at h;exact absurd h (by show ¬((21:Int)=0);decide)
theorem pg{n base off:Nat}{text:List UInt8}:∀(ks:List Nat) (d:DD),(cA n base off text ks d).2=0->(cA n base off text ks d).1.aF= []
 | [],d,h=>Gr h
 |k::r,d,h=>by
  unfold cA at h⊢;split
  ·rename_i h1;rw[if_pos h1]at h;split
   ·rename_i h2;rw[if_pos h2]at h;exact pg r _ h
   ·rename_i h2;rw[if_neg h2]at h;exact absurd h h2
  ·rename_i h1;rw[if_neg h1]at h;exact absurd h h1
theorem BJ{n base off:Nat}{text:List UInt8}{d:DD}(h:(b9 n base off text d).2=0)(hd:d.aF.length<1000000):(b9 n base off text d).1.aF.length<1000000:=by
 unfold b9 at h⊢;split
 ·exact hd
 ·rename_i h1;rw[if_neg h1]at h;rw[pg _ _ h];decide
end Go.Jn
namespace Go.Proofs.YtkmbmfengcdmoaaGreatDoor
open Go.RowKit Go.ay Go.Jn Go.Dk Go.Mp Go.Rf Go.Shelf

section
variable {w0 w w1 w2 w3 w4:World} {jb b bs bm bm1 n a size half len:Nat} {pv pv1 rv:Value} {br:Bool} {v:Nat×Nat×Nat} {r:DD×Int} {e:Ending} {d:DD}
theorem dD.sI(hb:Below w.heap.size w w1)(h:dD w1 b bs bm n pv d w2):dD w b bs bm n pv d w2:=dD.after (aJ.aY hb) (.inl rfl) (λ_ h=> .inl h) h
theorem jj.base(k:aJ (Fp b bs bm pv) w w3)(h1:bm1=bm\/w.heap.size<=bm1)(h2:∀k,pv1.ownBlock=some k->pv.ownBlock=some k\/w.heap.size<=k)(h:jj w3 jb b bs bm1 n a size half len pv1 rv br v r e w4):jj w jb b bs bm n a size half len pv rv br v r e w4:=by
 rcases h with⟨c1,c2,⟨bm',pv',u1,u2,u3,u4⟩,c4⟩|⟨c1,c2,c3⟩
 ·refine .inl ⟨c1,c2,⟨bm',pv',u1,(k.mono (λ_ _ h=> .inr h)).trans u2 (λi hi f=>f.imp id (λf=>iY h1 h2 i hi f)), ?_,λj hj=> ?_⟩,c4⟩
  ·rcases u3 with rfl|h
   ·exact h1
   ·exact .inr (fO k.size h)
  ·rcases u4 j hj with h|h
   ·exact h2 j h
   ·exact .inr (fO k.size h)
 ·exact .inr ⟨c1,c2,dD.after k h1 h2 c3⟩
theorem En.next(h:En w0 w b bs bm pv)(k:aJ (Fp b bs bm pv) w w1)(h1:bm1=bm\/w.heap.size<=bm1)(h2:∀k,pv1.ownBlock=some k->pv.ownBlock=some k\/w.heap.size<=k):En w0 w1 b bs bm1 pv1:=by
 have hs:=h.bl.size;refine⟨h.t,h.bl.trans (k.below h.f hs), ?_⟩;rintro j (rfl|rfl|rfl|e)
 ·exact h.f _ (.inl rfl)
 ·exact h.f _ (.inr (.inl rfl))
 ·rcases h1 with rfl|h1
  ·exact h.f _ (.inr (.inr (.inl rfl)))
  ·omega
 ·rcases h2 j e with h'|h'
  ·exact h.f _ (.inr (.inr (.inr h')))
  ·omega
end
set_option maxHeartbeats 400000 in
theorem Hg{w0 w:World}{jb bj bt b bs bm n a:Nat}{pv rv:Value}{br:Bool}{v:Nat×Nat×Nat}{d:DD}{text:List UInt8}(hd:aI w b bs bm pv d n)(hn:4<=n)(hj:ay w jb (dW v a ((n-2) / 2) b rv br) 189)
  (hb1:ay w bj [.pointer (some ⟨jb,0,none⟩)] 101) (hb2:ay w bt [.string (tx text)] 9) (ha:a<=1) (hh:v.2.1<=1) (hroom:v.2.2+text.length<=32*((n-2) / 2)) (hnum:v.1<999999999) (hpend:d.aF.length<=900000) (hE:En w0 w b bs bm pv):
  Calls Tryz.prog 130 #[.pointer (some ⟨bj,0,none⟩), .pointer (some ⟨bt,0,none⟩)] w (jj w jb b bs bm n a ((n-2) / 2) v.2.1 (v.2.2+text.length) pv rv br v (cy n a v.1 v.2.1 v.2.2 text d)):=by
 have hn2:=hd.ok.n2;obtain⟨R,eR⟩:=x_ (jj w jb b bs bm n a ((n-2) / 2) v.2.1 (v.2.2+text.length) pv rv br v (cy n a v.1 v.2.1 v.2.2 text d))
 rw[<-eR];have ER:=h_ eR;have HD:=h_ hd;have HJ:=h_ hj;have H1:=h_ hb1;have H2:=h_ hb2;have HE:=h_ hE;have ST:=h_ (fun(w1:World) (hb:Below w.heap.size w w1)=>Gp (w:=w1) (off:=v.2.2) (text:=text) (hd.below hb) hn (hj.below hb hj.lt) hh hroom hpend);have CM:=h_ (fun(w0 w3:World) (bm1:Nat) (pv1:Value) (d1:DD) (h1:aI w3 b bs bm1 pv1 d1 n) (h2:ay w3 jb (dW v a ((n-2) / 2) b rv br) 189) (h3:d1.aF.length<1000000) (h4:En w0 w3 b bs bm1 pv1)=>Ao (len:=v.2.2+text.length) h1 h2 ha hh (by omega) hnum h3 h4);have c0:=hb1.ag 0 _ rfl;have ct:=hb2.ag 0 _ rfl;have j1:=hj.ag 1 _ rfl;have j2:=hj.ag 2 _ rfl;have htl:=ft text;have hbs:v.2.2+text.length<=1000000:=by omega
 have HPD:=h_ hpend;obtain⟨x,ex⟩:=x_ (tx text)
 rw[<-ex]at ct htl ST H2;obtain⟨num,h,l⟩:=v;dsimp only at j1 j2 hbs;obtain⟨tl,etl⟩:=x_ (l+text.length)
 have htl2:(l:Int)+(x.size:Int)=(tl:Int):=by rw[htl];omega
 have htb:tl<=1000000:=by omega
 have ETL:=h_ etl;clear htl;clear eR hd hj hb1 hb2 hE ex hpend etl hbs;go_enter Tryz.func130,Tryz.ntmps130;go_wp2_with fail;refine Free.ai 12 [] (λy=>Below w.heap.size w y/\y.cell? ⟨bj,0,none⟩=some (.pointer (some ⟨jb,0,none⟩))/\y.cell? ⟨bt,0,none⟩=some (.string x)/\y.cell? ⟨jb,1,none⟩=some (.int .i64 (h:Int))/\y.cell? ⟨jb,2,none⟩=some (.int .i64 (l:Int))) (by kernel_rfl) (by kernel_rfl) (Free.aW (λj mk r hf=>by cases hf)) ⟨(Below.refl _ _).drew,c0,ct,j1,j2⟩
  (λ_ _ h g=>⟨h.1.trans (Below.mono g h.1.size),aO h.2.1 g,aO h.2.2.1 g,aO h.2.2.2.1 g,aO h.2.2.2.2 g⟩) ?_
 simp only[eJ,dT];iterate 12 (apply Free.ae (Free.wq rfl) rfl;(intro w' hB hA;obtain⟨qB,q1,q2,q3,q4⟩:=hB;clear hA qB;go_light;go_simp<;>rfl);(try simp only[Pt]))
 apply Free.ax;intro w1 hB1 _ _;simp only[fm,fo];have HB1:=h_ hB1.1;clear hB1 c0 ct j1 j2;go_wp2_with fail;refine(ST.out _ HB1.out).mono ?_;rintro e w2 ⟨hdk,⟨z,rfl⟩|⟨z,rfl⟩⟩
 ·have hd1:=HD.out.below HB1.out;have hj2:=hdk.bg hd1 (HJ.out.below HB1.out HJ.out.lt) (by decide) (by decide) (by decide);have h12:=hdk.bg hd1 (H1.out.below HB1.out H1.out.lt) (by decide) (by decide) (by decide);have h22:=hdk.bg hd1 (H2.out.below HB1.out H2.out.lt) (by decide) (by decide) (by decide);obtain⟨bm2,pv2,u1,u2,u3,u4⟩:=hdk.sI HB1.out;have U:=h_ (And.intro u1 (And.intro u2 (And.intro u3 u4)));have hf2:=BJ z (by have:=HPD.out;omega);have CC:=h_ (fun(w3:World) (hb:Below w2.heap.size w2 w3)=>CM.out w0 w3 bm2 pv2 _ (u1.below hb) (hj2.below hb hj2.lt) hf2 ((HE.out.next u2 u3 u4).grow hb));have ec:cy n a num h l text d=mC n a num h (l+text.length) (b9 n (2+h*((n-2) / 2)) l text d).1:=by unfold cy;rw[if_pos z]
  have EC:=h_ ec;have c0:=h12.ag 0 _ rfl;have ct:=h22.ag 0 _ rfl;have j1:=hj2.ag 1 _ rfl;have j2:=hj2.ag 2 _ rfl;rw[<-ETL.out]at CC;clear hdk z hd1 hj2 h12 h22 u1 u2 u3 u4 hf2 ec;go_wp2_with fail;refine Free.ai 14 [] (λy=>Below w2.heap.size w2 y/\y.cell? ⟨bj,0,none⟩=some (.pointer (some ⟨jb,0,none⟩))/\y.cell? ⟨bt,0,none⟩=some (.string x)/\y.cell? ⟨jb,1,none⟩=some (.int .i64 (h:Int))/\y.cell? ⟨jb,2,none⟩=some (.int .i64 (l:Int))) (by kernel_rfl) (by kernel_rfl) (Free.aW (λj mk r hf=>by cases hf)) ⟨(Below.refl _ _).drew,c0,ct,j1,j2⟩
   (λ_ _ h g=>⟨h.1.trans (Below.mono g h.1.size),aO h.2.1 g,aO h.2.2.1 g,aO h.2.2.2.1 g,aO h.2.2.2.2 g⟩) ?_
  simp only[eJ,dT];iterate 14 (apply Free.ae (Free.wq rfl) rfl;(intro w' hB hA;obtain⟨qB,q1,q2,q3,q4⟩:=hB;clear hA qB;go_light;go_simp<;>rfl);(try simp only[Pt]))
  apply Free.ax;intro w3 hB3 _ _;simp only[fm,fo];have HB3:=h_ hB3.1;clear hB3 c0 ct j1 j2;go_wp2_with fail;refine(CC.out _ HB3.out).mono ?_;intro e w4 hcm;have hcm2:=jj.base (U.out.2.1.trans (G:=λ_=>False) (aJ.aY HB3.out) (λ_ _ f=>f.elim)) U.out.2.2.1 U.out.2.2.2 hcm;have G:Hid (R e w4):=by rw[ER.out];show jj w jb b bs bm n a ((n-2) / 2) h (l+text.length) pv rv br (num,h,l) (cy n a num h l text d) _ _;rw[EC.out, <-ETL.out];exact hcm2
  rcases hcm with⟨_,rfl,_⟩|⟨_,rfl,_⟩
  ·clear hcm2;go_wp2_with fail
   go_end0
   exact G.out
  ·clear hcm2;go_wp2_with fail;first
    |exact G.out
    |exact⟨rfl,G.out⟩
 ·have G:Hid (R (.panicked (bad (b9 n (2+h*((n-2) / 2)) l text d).2)) w2):=by
   rw[ER.out];have ec:cy n a num h l text d=b9 n (2+h*((n-2) / 2)) l text d:=by unfold cy;rw[if_neg z]
   show jj w jb b bs bm n a ((n-2) / 2) h (l+text.length) pv rv br (num,h,l) (cy n a num h l text d) _ _;rw[ec];exact .inr ⟨z,rfl,hdk.sI HB1.out⟩
  clear hdk z;go_wp2_with fail;first
   |exact G.out
   |exact⟨rfl,G.out⟩
def z8(w:World)(jb b bs bm n a size half len:Nat)(pv rv:Value)(v:Nat×Nat×Nat)(r:DD×Int)(e:Ending)(w':World):Prop:=
 e= .returned (.int .i64 r.2)/\(∃bm' pv',aI w' b bs bm' pv' r.1 n/\aJ (λk=>k=jb\/Fp b bs bm pv k) w w'/\(bm'=bm\/w.heap.size<=bm')/\(∀k,pv'.ownBlock=some k->pv.ownBlock=some k\/w.heap.size<=k))/\
  ((r.2=0/\ay w' jb (dW (v.1+1,half,len) (1-a) size b rv false) 189)\/(r.2≠0/\ay w' jb (dW v a size b rv true) 189))
theorem Pk{w:World}{jb g b bs bm n a size half len:Nat}{cb:Array Value}{pv rv:Value}{v:Nat×Nat×Nat}{d:DD}{r:DD×Int}(hd:aI w b bs bm pv d n)(hj:ay w jb (dW v a size b rv false) 189)(eg:∀args w,(callFunc g args).run Tryz.prog w= .ok (.enter g args) w)
  (hop:∀W,Below w.heap.size w W->Calls Tryz.prog g cb W (jj W jb b bs bm n a size half len pv rv false v r)):
  Calls Tryz.prog 102 #[.pointer (some ⟨jb,0,none⟩), .func (.func g) #[] cb] w (z8 w jb b bs bm n a size half len pv rv v r):=by
 have hjb:jb<w.heap.size:=hj.lt;obtain⟨W,eW⟩:=x_ ((w.alloc (.cells #[.pointer (some ⟨jb,0,none⟩)] 101)).alloc (.cells #[.int .i64 0] 52))
 have TB:Below w.heap.size w W:=by rw[eW];exact((Below.refl _ w).alloc (aL _) _).alloc (by simp) _
 have t1:ay W w.heap.size [.pointer (some ⟨jb,0,none⟩)] 101:=by rw[eW];exact(ay.new w _ _).alloc _
 have t2:ay W (w.heap.size+1) [.int .i64 0] 52:=by rw[eW];exact ay.made (by simp) rfl
 have hdW:=hd.below TB;have hjW:=hj.below TB hjb;have hWs:W.heap.size=w.heap.size+2:=by rw[eW];simp
 refine DP (z8 w jb b bs bm n a size half len pv rv v r) eg hjb ?_;rw[<-eW];refine(hop W TB).mono ?_;rintro e w' (⟨c1,rfl,⟨bm',pv',u1,u2,u3,u4⟩,c4⟩|⟨c1,rfl,c3⟩)
 ·have k1:=t1.bG (u2.block _ t1.lt (λh=>h.elim (λh=>by omega) (jG hdW t1 (by decide) (by decide) (by decide))));have k2:=t2.bG (u2.block _ t2.lt (λh=>h.elim (λh=>by omega) (jG hdW t2 (by decide) (by decide) (by decide))));refine⟨k1,k2, .inl ⟨rfl,by rw[c1],⟨bm',pv', ?_, ?_, ?_,λk hk=> ?_⟩, .inl ⟨c1,c4.cL (a:=⟨w.heap.size+1,0,none⟩) (by show w.heap.size+1≠jb;omega) _⟩⟩⟩
  ·exact u1.bD ((aJ.refl (λk=>k=w.heap.size+1) w').setCell (p:=⟨w.heap.size+1,0,none⟩) (λ_=>rfl) _) (λk hf e=>jG u1 k2 (by decide) (by decide) (by decide) (e▸hf))
  ·exact(aJ.trans (F:=λk=>k=jb\/Fp b bs bm pv k) (aJ.aY TB) u2 (λ_ _ f=>f)).setCell (p:=⟨w.heap.size+1,0,none⟩) (λh=>absurd h (by show ¬w.heap.size+1<w.heap.size;omega)) _
  ·exact u3.imp id (λh=>by omega)
  ·exact(u4 k hk).imp id (λh=>by omega)
 ·have k1:=c3.bg hdW t1 (by decide) (by decide) (by decide);have k2:=c3.bg hdW t2 (by decide) (by decide) (by decide);have kj:=c3.bg hdW hjW (by decide) (by decide) (by decide);obtain⟨bm',pv',u1,u2,u3,u4⟩:=c3;refine⟨k1,k2, .inr ⟨r.2,rfl,kj.ag 7 _ rfl,kj.frozen 7,rfl,⟨bm',pv', ?_, ?_, ?_,λk hk=> ?_⟩, .inr ⟨c1, ?_⟩⟩⟩
  ·refine u1.bD (F:=λk=>k=jb\/k=w.heap.size+1) ((((aJ.refl (λk=>k=jb\/k=w.heap.size+1) w').setCell (p:=⟨jb,7,none⟩) (λ_=> .inl rfl) _).setCell (p:=⟨w.heap.size+1,0,none⟩) (λ_=> .inr rfl) _).setCell (p:=⟨w.heap.size+1,0,none⟩) (λ_=> .inr rfl) _) (λk hf e=> ?_);rcases e with e|e
   ·exact jG u1 kj (by decide) (by decide) (by decide) (e▸hf)
   ·exact jG u1 k2 (by decide) (by decide) (by decide) (e▸hf)
  ·have kk:aJ (λk=>k=jb\/Fp b bs bm pv k) w w':=aJ.trans (F:=λk=>k=jb\/Fp b bs bm pv k) (aJ.aY TB) u2 (λ_ _ f=> .inr f);exact((kk.setCell (p:=⟨jb,7,none⟩) (λ_=> .inl rfl) _).setCell (p:=⟨w.heap.size+1,0,none⟩) (λh=>absurd h (by show ¬w.heap.size+1<w.heap.size;omega)) _).setCell (p:=⟨w.heap.size+1,0,none⟩) (λh=>absurd h (by show ¬w.heap.size+1<w.heap.size;omega)) _
  ·exact u3.imp id (λh=>by omega)
  ·exact(u4 k hk).imp id (λh=>by omega)
  ·exact((kj.set 7 (.bool true)).cL (a:=⟨w.heap.size+1,0,none⟩) (by show w.heap.size+1≠jb;omega) _).cL (a:=⟨w.heap.size+1,0,none⟩) (by show w.heap.size+1≠jb;omega) _
end Go.Proofs.YtkmbmfengcdmoaaGreatDoor
