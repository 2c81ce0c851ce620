/- The disk's Read: what it returns. -/
import Derived.Test.YtkmbmfengcdmoaaGreatDoorZAP
set_option maxRecDepth 100000
set_option linter.all false
namespace Go.Proofs.YtkmbmfengcdmoaaGreatDoor
open Go.RowKit Go.ay Go.Dk Go.Mp

section
variable {w:World} {b bs bm n:Nat} {pv:Value} {d:DD}
theorem lT{x:Nat×List UInt8}:∀v∈bu x,v.oneCell'=true:=by
 intro v hv;simp only[bu,lC,nS]at hv;rcases hv with rfl|⟨y,_,rfl⟩<;>rfl
theorem wV(h:aI w b bs bm pv d n):∃A c,pv= .slice A d.aF.length c:=by
 rcases h.row.2 with⟨rfl,h0⟩|⟨g,cap,cur,rfl,_⟩
 ·exact⟨none,0,by rw[h0]⟩
 ·exact⟨_,_,rfl⟩
def RS(w:World)(b bs bm n ws tb:Nat)(pv:Value)(d:DD)(i:Value)(wr:World):Prop:=
 ∃k:Nat,k<=d.aF.length/\i= .int .i64 k/\aI wr b bs bm pv (rF d ws tb k) n/\aJ (Fp b bs bm pv) w wr
def Cg(w:World)(b bs bm n:Nat)(pv:Value)(d:DD)(e:Ending)(w':World):Prop:=
 e= .returned (.tuple #[])/\∃bm',aI w' b bs bm' (.slice none 0 0) d n/\aJ (Fp b bs bm pv) w w'/\w.heap.size<=bm'
theorem fC{w w2:World}(h:Free.Grow w.drew w2):Below w.heap.size w w2:=⟨h.os,h.tape,h.output,h.size,h.block⟩
theorem df{w w':World}{p:Addr}{v:Value}(h:w.cell? p=some v)(g:Free.Grow w w'):w'.cell? p=some v:=by rw[Below.cell g (World.block_lt_of_cell? w _ h)];exact h
theorem copied{st t:List UInt8}{o:Nat}:(((st.map C8).toArray.toList).take o++(t.map C8++((st.map C8).toArray.toList).drop (o+(t.map C8).length))).toArray=((aX st o t).map C8).toArray:=by simp[aX]
theorem vI{x:Nat×List UInt8}{g:Nat}{T:TypeId}(hB:ay w g (bu x) T)(m:Nat):∀j v,((x.2.take m).map C8)[j]? =some v->w.cell? ((⟨g,1,none⟩:Addr).add j)=some v:=by
 intro j v hv;rw[addr_add];refine hB.ag (1+j) v ?_;rw[Sm];simp only[bu,List.getElem?_cons_succ];rw[mx,qC]at hv;rw[mx];split at hv
 ·exact hv
 ·simp at hv
theorem tH{ws tb k:Nat}{x:Nat×List UInt8}(hx:d.aF[k]? =some x):rR d.st d.aF ws tb (k+1)=if k<ws then aX (rR d.st d.aF ws tb k) (32*x.1) x.2 else if k=ws then aX (rR d.st d.aF ws tb k) (32*x.1) (x.2.take tb)else rR d.st d.aF ws tb k:=by
 conv=>lhs;unfold rR;rw[hx]
set_option maxHeartbeats 2000000 in
theorem tI(h:aI w b bs bm pv d n)(ws tb:Nat)(hw:ws<=9223372036854775807)(htb:tb<=32):
  Calls Tryz.prog 68 #[.pointer (some ⟨b,0,none⟩), .int .i64 ws, .int .i64 tb] w (Cg w b bs bm n pv {d with st:=settled d.st d.aF ws tb,aF:= []}):=by
 obtain⟨A,c,rfl⟩:=wV h;have hfew:=h.ok.jX;have c2:=h.bg.ag 2 _ rfl;have hst:RS w b bs bm n ws tb (.slice A d.aF.length c) d (.int .i64 0) w:=⟨0,gu _,rfl,h,aJ.refl _ _⟩
 have HST:=h_ hst;clear hst;go_enter Tryz.func68,Tryz.ntmps68;go_wp2_with fail
 go_loopw [13] (λi wr=>RS w b bs bm n ws tb (.slice A d.aF.length c) d i wr) (λi _=>d.aF.length- (intOf i).toNat)
 case atStart=>exact HST.out
 case round=>
  clear HST c2;obtain⟨k,hk,rfl,hD,hKp⟩:=hrel;by_cases hlt:k<d.aF.length
  ·by_cases hkw:k<ws
   ·have hkw1:(k:Int)<(ws:Int):=by omega
    have hkw2:((k:Int)==(ws:Int))=false:=by simp;omega
    have hkw3: ¬(k:Int)=(ws:Int):=by omega
    obtain⟨x,hx⟩:∃x,d.aF[k]? =some x:=⟨_,eH hlt⟩
    obtain⟨g,cap,hpv,hrg⟩:=hD.wT (d:=rF d ws tb k) hx;obtain⟨hA,hc⟩:A=some ⟨g,0,none⟩/\c=cap:=by injection hpv with h1 h2 h3;exact⟨h1,h3⟩
    subst hA hc;have hsec:=(h.ok.sec k x hx).1;have hl32:=(h.ok.sec k x hx).2;have HL:=h_ (lS hl32);have HI:Hid ((Tryz.prog.info? 203).map (·.size)=some (bu x).length):=by show _=_;rw[HL.out];kernel_rfl
    have HRG:Hid (wr.rangeAt g (k*33) (bu x)):=by show World.rangeAt _ _ _ _;rw[B8];exact hrg
    have H1C:Hid ((bu x).toArray.all (·.oneCell')=true):=all_oneCell_toArray (λv hv=>lT v hv);have hDa:=hD.alloc (.cells (bu x).toArray 203);have HDA:=h_ hDa;have HKP:=h_ (hKp.alloc (.cells (bu x).toArray 203));have HBL:=h_ (ay.new wr (bu x) 203);have HX:=h_ hx;have hok:=h.ok;have hkl:(k:Int)<(d.aF.length:Int):=by omega
    clear hD hKp hDa hrg hpv hx h;go_wp2_with (first|(with_reducible refine wpList_load_mid rfl 203 (.tmp 16) rfl g (k*33) rfl (bu x) _ HRG.out Tryz.underlying203 rfl HI.out ?_)|(with_reducible refine wpList_store_row rfl 203 (.tmp 7) (.tmp 17) rfl wr.heap.size (bu x).toArray rfl rfl 203 _ (heap_alloc_last wr _) (by rw[HI.out];simp) (by simp[HL.out]) H1C.out ?_;rw[World.setRow_alloc_new]))
    refine Free.ai 7 [(4, .det (.slice (some ⟨bs,32*x.1,none⟩) 32 (32*n-32*x.1)))] (λw2=>w2.cell? ⟨wr.heap.size,0,none⟩=some (.int .i64 x.1)/\aI w2 b bs bm (.slice (some ⟨g,0,none⟩) d.aF.length c) (rF d ws tb k) n/\ay w2 wr.heap.size (bu x) 203) (by kernel_rfl) (by kernel_rfl) ?_ ⟨HBL.out.drew.ag 0 _ rfl,HDA.out.drew,HBL.out.drew⟩ (λ_ _ h g=>⟨df h.1 g,h.2.1.below g,h.2.2.below g h.2.2.lt⟩) ?_
    ·intro j mk r hf;simp only[Free.find]at hf
     repeat' split at hf
     all_goals (first|cases hf|skip)
    simp only[eJ,dT];iterate 7 (first|(apply Free.aC rfl rfl;(intro w' ⟨q0,q1,q2⟩ hA;refine Free.au (f:=113) (args:= #[.pointer (some ⟨b,0,none⟩), .int .i64 x.1]) (by clear q0 q1 q2 hA;go_simp) ?_;refine(nK q1 x.1 hsec).mono ?_;rintro e w3 ⟨rfl,rfl⟩;exact⟨_,rfl,Free.Grow.refl _,rfl⟩);simp only[Pt])|(apply Free.ae (Free.wq rfl) rfl;(intro w' hB hA;obtain⟨q0,q1,q2⟩:=hB;clear hA q1 q2;go_light;go_simp<;>rfl);(try simp only[Pt])))
    apply Free.ax;intro wz ⟨q0,q1,q2⟩ hg _;simp only[fm,fo];refine wpList_copy_own rfl (.tmp 25) (.tmp 27) 117 117 rfl 5 Tryz.underlying117 (by kernel_rfl) bs (32*x.1) 32 (32*n-32*x.1) ⟨wr.heap.size,1,none⟩ 32 32 rfl rfl ((rF d ws tb k).st.map C8).toArray 5 q1.st (x.2.map C8) (by simp[hl32]) (by have:=vI q2 32;rwa[np (by omega)]at this) (by have:=q1.ok.len;have:=q1.ok.n2;simp[hl32];omega) (λv hv=>by obtain⟨y,_,rfl⟩:=nS.1 hv;rfl) ?_;rw[copied];have hnew:rR d.st d.aF ws tb (k+1)=aX (rF d ws tb k).st (32*x.1) x.2:=by rw[tH HX.out,if_pos hkw];rfl
    have q3:=q1.Kb (d':=rF d ws tb (k+1)) (aX (rF d ws tb k).st (32*x.1) x.2) (by unfold rF;rw[hnew];rfl) (Hz hok ws tb (k+1));have hKz:aJ (Fp b bs bm (.slice (some ⟨g,0,none⟩) d.aF.length c)) w (wz.setRow bs ((aX (rF d ws tb k).st (32*x.1) x.2).map C8).toArray):=(HKP.out.trans (aJ.aY (fC hg)) (λ_ _ f=>f)).setRow (λ_=> .inr (.inl rfl)) _;have key:RS w b bs bm n ws tb (.slice (some ⟨g,0,none⟩) d.aF.length c) d (.int .i64 ((k:Int)+1)) (wz.setRow bs ((aX (rF d ws tb k).st (32*x.1) x.2).map C8).toArray):=⟨k+1,by omega,by go_num,q3,hKz⟩
    have KEY:=h_ key;generalize wz.setRow bs ((aX (rF d ws tb k).st (32*x.1) x.2).map C8).toArray=w4 at KEY⊢;clear key q3 hKz hnew q1 q2 q0 hg HKP HDA HBL HRG HI HL H1C HX;go_wp2_with fail
    go_roundw
    case rel=>
     go_light;have key:=KEY.out;first|exact key|((repeat apply Exists.intro);exact⟨key,rfl⟩)
    case measure=>simp[intOf];omega
   ·by_cases hke:k=ws
    ·subst hke;have hkw1: ¬(k:Int)<(k:Int):=by omega
     have hkw2:((k:Int)==(k:Int))=true:=by simp
     have htb1:(tb:Int)<=32:=by omega
     obtain⟨x,hx⟩:∃x,d.aF[k]? =some x:=⟨_,eH hlt⟩
     obtain⟨g,cap,hpv,hrg⟩:=hD.wT (d:=rF d k tb k) hx;obtain⟨hA,hc⟩:A=some ⟨g,0,none⟩/\c=cap:=by injection hpv with h1 h2 h3;exact⟨h1,h3⟩
     subst hA hc;have hsec:=(h.ok.sec k x hx).1;have hl32:=(h.ok.sec k x hx).2;have HL:=h_ (lS hl32);have HI:Hid ((Tryz.prog.info? 203).map (·.size)=some (bu x).length):=by show _=_;rw[HL.out];kernel_rfl
     have HRG:Hid (wr.rangeAt g (k*33) (bu x)):=by show World.rangeAt _ _ _ _;rw[B8];exact hrg
     have H1C:Hid ((bu x).toArray.all (·.oneCell')=true):=all_oneCell_toArray (λv hv=>lT v hv);have hDa:=hD.alloc (.cells (bu x).toArray 203);have HDA:=h_ hDa;have HKP:=h_ (hKp.alloc (.cells (bu x).toArray 203));have HBL:=h_ (ay.new wr (bu x) 203);have HX:=h_ hx;have hok:=h.ok;have hkl:(k:Int)<(d.aF.length:Int):=by omega
     clear hD hKp hDa hrg hpv hx h;go_wp2_with (first|(with_reducible refine wpList_load_mid rfl 203 (.tmp 16) rfl g (k*33) rfl (bu x) _ HRG.out Tryz.underlying203 rfl HI.out ?_)|(with_reducible refine wpList_store_row rfl 203 (.tmp 7) (.tmp 17) rfl wr.heap.size (bu x).toArray rfl rfl 203 _ (heap_alloc_last wr _) (by rw[HI.out];simp) (by simp[HL.out]) H1C.out ?_;rw[World.setRow_alloc_new]))
     refine Free.ai 8 [(4, .det (.slice (some ⟨bs,32*x.1,none⟩) 32 (32*n-32*x.1)))] (λw2=>w2.cell? ⟨wr.heap.size,0,none⟩=some (.int .i64 x.1)/\aI w2 b bs bm (.slice (some ⟨g,0,none⟩) d.aF.length c) (rF d k tb k) n/\ay w2 wr.heap.size (bu x) 203) (by kernel_rfl) (by kernel_rfl) ?_ ⟨HBL.out.drew.ag 0 _ rfl,HDA.out.drew,HBL.out.drew⟩ (λ_ _ h g=>⟨df h.1 g,h.2.1.below g,h.2.2.below g h.2.2.lt⟩) ?_
     ·intro j mk r hf;simp only[Free.find]at hf
      repeat' split at hf
      all_goals (first|cases hf|skip)
     simp only[eJ,dT];iterate 8 (first|(apply Free.aC rfl rfl;(intro w' ⟨q0,q1,q2⟩ hA;refine Free.au (f:=113) (args:= #[.pointer (some ⟨b,0,none⟩), .int .i64 x.1]) (by clear q0 q1 q2 hA;go_simp) ?_;refine(nK q1 x.1 hsec).mono ?_;rintro e w3 ⟨rfl,rfl⟩;exact⟨_,rfl,Free.Grow.refl _,rfl⟩);simp only[Pt])|(apply Free.ae (Free.wq rfl) rfl;(intro w' hB hA;obtain⟨q0,q1,q2⟩:=hB;clear hA q1 q2;go_light;go_simp<;>rfl);(try simp only[Pt])))
     apply Free.ax;intro wz ⟨q0,q1,q2⟩ hg _;simp only[fm,fo];refine wpList_copy_own rfl (.tmp 36) (.tmp 39) 117 117 rfl 5 Tryz.underlying117 (by kernel_rfl) bs (32*x.1) 32 (32*n-32*x.1) ⟨wr.heap.size,1,none⟩ tb 32 rfl rfl ((rF d k tb k).st.map C8).toArray 5 q1.st ((x.2.take tb).map C8) (by simp[hl32]) (vI q2 tb) (by have:=q1.ok.len;have:=q1.ok.n2;simp[hl32];omega) (λv hv=>by obtain⟨y,_,rfl⟩:=nS.1 hv;rfl) ?_;rw[copied];have hnew:rR d.st d.aF k tb (k+1)=aX (rF d k tb k).st (32*x.1) (x.2.take tb):=by rw[tH HX.out,if_neg (by omega),if_pos rfl];rfl
     have q3:=q1.Kb (d':=rF d k tb (k+1)) (aX (rF d k tb k).st (32*x.1) (x.2.take tb)) (by unfold rF;rw[hnew];rfl) (Hz hok k tb (k+1));have hKz:aJ (Fp b bs bm (.slice (some ⟨g,0,none⟩) d.aF.length c)) w (wz.setRow bs ((aX (rF d k tb k).st (32*x.1) (x.2.take tb)).map C8).toArray):=(HKP.out.trans (aJ.aY (fC hg)) (λ_ _ f=>f)).setRow (λ_=> .inr (.inl rfl)) _;have key:RS w b bs bm n k tb (.slice (some ⟨g,0,none⟩) d.aF.length c) d (.int .i64 ((k:Int)+1)) (wz.setRow bs ((aX (rF d k tb k).st (32*x.1) (x.2.take tb)).map C8).toArray):=⟨k+1,by omega,by go_num,q3,hKz⟩
     have KEY:=h_ key;generalize wz.setRow bs ((aX (rF d k tb k).st (32*x.1) (x.2.take tb)).map C8).toArray=w4 at KEY⊢;clear key q3 hKz hnew q1 q2 q0 hg HKP HDA HBL HRG HI HL H1C HX;go_wp2_with fail
     go_roundw
     case rel=>
      go_light;have key:=KEY.out;first|exact key|((repeat apply Exists.intro);exact⟨key,rfl⟩)
     case measure=>simp[intOf];omega
    ·have hkw1: ¬(k:Int)<(ws:Int):=by omega
     have hkw2:((k:Int)==(ws:Int))=false:=by simp;omega
     have hkw3: ¬(k:Int)=(ws:Int):=by omega
     obtain⟨x,hx⟩:∃x,d.aF[k]? =some x:=⟨_,eH hlt⟩
     obtain⟨g,cap,hpv,hrg⟩:=hD.wT (d:=rF d ws tb k) hx;obtain⟨hA,hc⟩:A=some ⟨g,0,none⟩/\c=cap:=by injection hpv with h1 h2 h3;exact⟨h1,h3⟩
     subst hA hc;have hsec:=(h.ok.sec k x hx).1;have hl32:=(h.ok.sec k x hx).2;have HL:=h_ (lS hl32);have HI:Hid ((Tryz.prog.info? 203).map (·.size)=some (bu x).length):=by show _=_;rw[HL.out];kernel_rfl
     have HRG:Hid (wr.rangeAt g (k*33) (bu x)):=by show World.rangeAt _ _ _ _;rw[B8];exact hrg
     have H1C:Hid ((bu x).toArray.all (·.oneCell')=true):=all_oneCell_toArray (λv hv=>lT v hv);have hDa:=hD.alloc (.cells (bu x).toArray 203);have HDA:=h_ hDa;have HKP:=h_ (hKp.alloc (.cells (bu x).toArray 203));have HBL:=h_ (ay.new wr (bu x) 203);have HX:=h_ hx;have hok:=h.ok;have hkl:(k:Int)<(d.aF.length:Int):=by omega
     clear hD hKp hDa hrg hpv hx h;go_wp2_with (first|(with_reducible refine wpList_load_mid rfl 203 (.tmp 16) rfl g (k*33) rfl (bu x) _ HRG.out Tryz.underlying203 rfl HI.out ?_)|(with_reducible refine wpList_store_row rfl 203 (.tmp 7) (.tmp 17) rfl wr.heap.size (bu x).toArray rfl rfl 203 _ (heap_alloc_last wr _) (by rw[HI.out];simp) (by simp[HL.out]) H1C.out ?_;rw[World.setRow_alloc_new]))
     have hnew:rR d.st d.aF ws tb (k+1)=rR d.st d.aF ws tb k:=by rw[tH HX.out,if_neg hkw,if_neg hke]
     have key:RS w b bs bm n ws tb (.slice (some ⟨g,0,none⟩) d.aF.length c) d (.int .i64 ((k:Int)+1)) (wr.alloc (.cells (bu x).toArray 203)):=⟨k+1,by omega,by go_num,by unfold rF;rw[hnew];exact HDA.out,HKP.out⟩
     have KEY:=h_ key
     go_roundw
     case rel=>
      go_light;have key:=KEY.out;first|exact key|((repeat apply Exists.intro);exact⟨key,rfl⟩)
     case measure=>simp[intOf];omega
  ·obtain rfl:k=d.aF.length:=by omega
   have hok:=h.ok;have c2:=hD.bg.ag 2 _ rfl;have f2:=hD.bg.frozen 2;have B2:=hD.bg.set 2 (.slice none 0 0);have B2a:=B2.alloc (.map #[] 0);have c3:=B2a.ag 3 _ rfl;have f3:=B2a.frozen 3;have B3:=B2a.set 3 (.map (some (wr.setCell ⟨b,2,none⟩ (.slice none 0 0)).heap.size));have hne:∀k,k≠b->(((wr.setCell ⟨b,2,none⟩ (.slice none 0 0)).alloc (.map #[] 0)).setCell ⟨b,3,none⟩ (.map (some (wr.setCell ⟨b,2,none⟩ (.slice none 0 0)).heap.size))).heap[k]? =((wr.setCell ⟨b,2,none⟩ (.slice none 0 0)).alloc (.map #[] 0)).heap[k]? :=λk hk=>Below.heap_setCell _ ⟨b,3,none⟩ _ k hk
   have hz:(wr.setCell ⟨b,2,none⟩ (.slice none 0 0)).heap.size=wr.heap.size:=by simp[World.setCell]
   have hfin:Cg w b bs bm n (.slice A d.aF.length c) {d with st:=settled d.st d.aF ws tb,aF:= []} (.returned (.tuple #[])) (((wr.setCell ⟨b,2,none⟩ (.slice none 0 0)).alloc (.map #[] 0)).setCell ⟨b,3,none⟩ (.map (some (wr.setCell ⟨b,2,none⟩ (.slice none 0 0)).heap.size))):=by
    refine⟨rfl,(wr.setCell ⟨b,2,none⟩ (.slice none 0 0)).heap.size,⟨?_,B3, ?_,World.ownsRow_nil _ _ _ _, ?_⟩, ?_, ?_⟩
    ·exact⟨rS ws tb hok.len hok.sec _,λi x hx=>by simp at hx,by simp,hok.a0,hok.a1,hok.w0,hok.w1,hok.b0,hok.b1,hok.n1,hok.n2⟩
    ·refine(ay.bG ?_ (hne bs hD.PN));exact(hD.st.cL (a:=⟨b,2,none⟩) (λe=>hD.PN e.symm) _).alloc _
    ·refine(bL.made (wr.setCell ⟨b,2,none⟩ (.slice none 0 0))).bD (hne _ ?_);rw[hz];have:=hD.bg.lt;omega
    ·exact((hKp.setCell (p:=⟨b,2,none⟩) (λ_=> .inl rfl) _).alloc _).setCell (p:=⟨b,3,none⟩) (λ_=> .inl rfl) _
    ·rw[hz];exact hKp.size
   have HF:=h_ hfin;have hmm:= @run_makeMap Tryz.prog;rw[hz]at HF;clear hfin B2 B2a B3 hne h hD hKp hlt hk hok
   go_wp2
   go_end0
   exact HF.out
end
section
variable {w:World} {b bs bm n:Nat} {pv:Value} {d:DD}
def eM(w:World)(b bs bm n:Nat)(pv:Value)(d:DD)(v:Value)(e:Ending)(w':World):Prop:=
 e= .returned v/\∃bm' pv',aI w' b bs bm' pv' d n/\aJ (Fp b bs bm pv) w w'/\(bm'=bm\/w.heap.size<=bm')/\(∀k,pv'.ownBlock=some k->pv.ownBlock=some k\/w.heap.size<=k)
theorem Cu(h:aI w b bs bm pv d n)(v:Value):eM w b bs bm n pv d v (.returned v) w:=⟨rfl,bm,pv,h,aJ.refl _ _, .inl rfl,λ_ h=> .inl h⟩
theorem iY{bm':Nat}{pv':Value}{w0:World}(h1:bm'=bm\/w0.heap.size<=bm')(h2:∀k,pv'.ownBlock=some k->pv.ownBlock=some k\/w0.heap.size<=k)(k:Nat)(hk:k<w0.heap.size)(hf:Fp b bs bm' pv' k):Fp b bs bm pv k:=by
 rcases hf with rfl|rfl|rfl|e
 ·exact .inl rfl
 ·exact .inr (.inl rfl)
 ·rcases h1 with rfl|h1
  ·exact .inr (.inr (.inl rfl))
  ·omega
 ·rcases h2 k e with h2|h2
  ·exact .inr (.inr (.inr h2))
  ·omega
theorem oD(h:aI w b bs bm pv d n)(x y:Int)(hx0: -9223372036854775808<=x)(hx1:x<=9223372036854775807):
  Calls Tryz.prog 24 #[.pointer (some ⟨b,0,none⟩), .int .i64 x, .int .i64 y] w (eM w b bs bm n pv (d.fail x y) (.tuple #[])):=by
 have c0:=h.bg.ag 0 _ rfl;cases hon:d.on with
 |false=>
  have e2:d.fail x y=d:=by simp[DD.fail,hon]
  rw[e2];rw[hon]at c0;have HD:=h_ (Cu h (.tuple #[]));clear e2 h hon;go_enter Tryz.func24,Tryz.ntmps24
  go_wp2
  refine bodyPost_ret (results_none rfl _ _ _) rfl ?_;exact HD.out
 |true=>
  rw[hon]at c0;have e2:d.fail x y= {d with on:=false,st:=settled d.st d.aF (cj x) (bX y),aF:= [],bH:=false}:=by simp[DD.fail,hon]
  rw[e2];have s1:=tI h (cj x) (bX y) (by unfold cj;omega) (by unfold bX;omega);clear e2 hon;by_cases hx:x<0
  ·by_cases hy:y<0
   ·have ex:((cj x:Nat):Int)=0:=by unfold cj;omega
    have ey:((bX y:Nat):Int)=0:=by unfold bX;omega
    rw[ex,ey]at s1;have S1:=h_ s1;clear ex ey;go_enter Tryz.func24,Tryz.ntmps24;go_wp2_with fail;refine S1.out.mono ?_;rintro e w1 ⟨rfl,bm1,h1,k1,hb1⟩;have ok1:=h1.ok;have h2:=h1.set (d':= {d with on:=false,st:=settled d.st d.aF (cj x) (bX y),aF:= []}) 0 (.bool false) rfl rfl rfl ⟨ok1.len,ok1.sec,ok1.jX,ok1.a0,ok1.a1,ok1.w0,ok1.w1,ok1.b0,ok1.b1,ok1.n1,ok1.n2⟩;have h3:=h2.set (d':= {d with on:=false,st:=settled d.st d.aF (cj x) (bX y),aF:= [],bH:=false}) 4 (.bool false) rfl rfl rfl ⟨ok1.len,ok1.sec,ok1.jX,ok1.a0,ok1.a1,ok1.w0,ok1.w1,ok1.b0,ok1.b1,ok1.n1,ok1.n2⟩;have k0:=h1.bg.ag 0 _ rfl;have g0:=h1.bg.frozen 0;have k4:=h2.bg.ag 4 _ rfl;have g4:=h2.bg.frozen 4;have fin:eM w b bs bm n pv {d with on:=false,st:=settled d.st d.aF (cj x) (bX y),aF:= [],bH:=false} (.tuple #[]) (.returned (.tuple #[])) ((w1.setCell ⟨b,0,none⟩ (.bool false)).setCell ⟨b,4,none⟩ (.bool false)):=
     ⟨rfl,bm1, .slice none 0 0,h3,(k1.setCell (p:=⟨b,0,none⟩) (λ_=> .inl rfl) _).setCell (p:=⟨b,4,none⟩) (λ_=> .inl rfl) _, .inr hb1,λk e=>by simp[Value.ownBlock]at e⟩
    have FIN:=h_ fin;clear fin h1 h2 h3 ok1 k1 hb1 h s1 S1 c0;go_wp2_with fail
    go_end0
    exact FIN.out
   ·by_cases hy2:32<y
    ·have ex:((cj x:Nat):Int)=0:=by unfold cj;omega
     have ey:((bX y:Nat):Int)=32:=by unfold bX;omega
     rw[ex,ey]at s1;have S1:=h_ s1;clear ex ey;go_enter Tryz.func24,Tryz.ntmps24;go_wp2_with fail;refine S1.out.mono ?_;rintro e w1 ⟨rfl,bm1,h1,k1,hb1⟩;have ok1:=h1.ok;have h2:=h1.set (d':= {d with on:=false,st:=settled d.st d.aF (cj x) (bX y),aF:= []}) 0 (.bool false) rfl rfl rfl ⟨ok1.len,ok1.sec,ok1.jX,ok1.a0,ok1.a1,ok1.w0,ok1.w1,ok1.b0,ok1.b1,ok1.n1,ok1.n2⟩;have h3:=h2.set (d':= {d with on:=false,st:=settled d.st d.aF (cj x) (bX y),aF:= [],bH:=false}) 4 (.bool false) rfl rfl rfl ⟨ok1.len,ok1.sec,ok1.jX,ok1.a0,ok1.a1,ok1.w0,ok1.w1,ok1.b0,ok1.b1,ok1.n1,ok1.n2⟩;have k0:=h1.bg.ag 0 _ rfl;have g0:=h1.bg.frozen 0;have k4:=h2.bg.ag 4 _ rfl;have g4:=h2.bg.frozen 4;have fin:eM w b bs bm n pv {d with on:=false,st:=settled d.st d.aF (cj x) (bX y),aF:= [],bH:=false} (.tuple #[]) (.returned (.tuple #[])) ((w1.setCell ⟨b,0,none⟩ (.bool false)).setCell ⟨b,4,none⟩ (.bool false)):=
      ⟨rfl,bm1, .slice none 0 0,h3,(k1.setCell (p:=⟨b,0,none⟩) (λ_=> .inl rfl) _).setCell (p:=⟨b,4,none⟩) (λ_=> .inl rfl) _, .inr hb1,λk e=>by simp[Value.ownBlock]at e⟩
     have FIN:=h_ fin;clear fin h1 h2 h3 ok1 k1 hb1 h s1 S1 c0;go_wp2_with fail
     go_end0
     exact FIN.out
    ·have ex:((cj x:Nat):Int)=0:=by unfold cj;omega
     have ey:((bX y:Nat):Int)=y:=by unfold bX;omega
     rw[ex,ey]at s1;have S1:=h_ s1;clear ex ey;go_enter Tryz.func24,Tryz.ntmps24;go_wp2_with fail;refine S1.out.mono ?_;rintro e w1 ⟨rfl,bm1,h1,k1,hb1⟩;have ok1:=h1.ok;have h2:=h1.set (d':= {d with on:=false,st:=settled d.st d.aF (cj x) (bX y),aF:= []}) 0 (.bool false) rfl rfl rfl ⟨ok1.len,ok1.sec,ok1.jX,ok1.a0,ok1.a1,ok1.w0,ok1.w1,ok1.b0,ok1.b1,ok1.n1,ok1.n2⟩;have h3:=h2.set (d':= {d with on:=false,st:=settled d.st d.aF (cj x) (bX y),aF:= [],bH:=false}) 4 (.bool false) rfl rfl rfl ⟨ok1.len,ok1.sec,ok1.jX,ok1.a0,ok1.a1,ok1.w0,ok1.w1,ok1.b0,ok1.b1,ok1.n1,ok1.n2⟩;have k0:=h1.bg.ag 0 _ rfl;have g0:=h1.bg.frozen 0;have k4:=h2.bg.ag 4 _ rfl;have g4:=h2.bg.frozen 4;have fin:eM w b bs bm n pv {d with on:=false,st:=settled d.st d.aF (cj x) (bX y),aF:= [],bH:=false} (.tuple #[]) (.returned (.tuple #[])) ((w1.setCell ⟨b,0,none⟩ (.bool false)).setCell ⟨b,4,none⟩ (.bool false)):=
      ⟨rfl,bm1, .slice none 0 0,h3,(k1.setCell (p:=⟨b,0,none⟩) (λ_=> .inl rfl) _).setCell (p:=⟨b,4,none⟩) (λ_=> .inl rfl) _, .inr hb1,λk e=>by simp[Value.ownBlock]at e⟩
     have FIN:=h_ fin;clear fin h1 h2 h3 ok1 k1 hb1 h s1 S1 c0;go_wp2_with fail
     go_end0
     exact FIN.out
  ·by_cases hy:y<0
   ·have ex:((cj x:Nat):Int)=x:=by unfold cj;omega
    have ey:((bX y:Nat):Int)=0:=by unfold bX;omega
    rw[ex,ey]at s1;have S1:=h_ s1;clear ex ey;go_enter Tryz.func24,Tryz.ntmps24;go_wp2_with fail;refine S1.out.mono ?_;rintro e w1 ⟨rfl,bm1,h1,k1,hb1⟩;have ok1:=h1.ok;have h2:=h1.set (d':= {d with on:=false,st:=settled d.st d.aF (cj x) (bX y),aF:= []}) 0 (.bool false) rfl rfl rfl ⟨ok1.len,ok1.sec,ok1.jX,ok1.a0,ok1.a1,ok1.w0,ok1.w1,ok1.b0,ok1.b1,ok1.n1,ok1.n2⟩;have h3:=h2.set (d':= {d with on:=false,st:=settled d.st d.aF (cj x) (bX y),aF:= [],bH:=false}) 4 (.bool false) rfl rfl rfl ⟨ok1.len,ok1.sec,ok1.jX,ok1.a0,ok1.a1,ok1.w0,ok1.w1,ok1.b0,ok1.b1,ok1.n1,ok1.n2⟩;have k0:=h1.bg.ag 0 _ rfl;have g0:=h1.bg.frozen 0;have k4:=h2.bg.ag 4 _ rfl;have g4:=h2.bg.frozen 4;have fin:eM w b bs bm n pv {d with on:=false,st:=settled d.st d.aF (cj x) (bX y),aF:= [],bH:=false} (.tuple #[]) (.returned (.tuple #[])) ((w1.setCell ⟨b,0,none⟩ (.bool false)).setCell ⟨b,4,none⟩ (.bool false)):=
     ⟨rfl,bm1, .slice none 0 0,h3,(k1.setCell (p:=⟨b,0,none⟩) (λ_=> .inl rfl) _).setCell (p:=⟨b,4,none⟩) (λ_=> .inl rfl) _, .inr hb1,λk e=>by simp[Value.ownBlock]at e⟩
    have FIN:=h_ fin;clear fin h1 h2 h3 ok1 k1 hb1 h s1 S1 c0;go_wp2_with fail
    go_end0
    exact FIN.out
   ·by_cases hy2:32<y
    ·have ex:((cj x:Nat):Int)=x:=by unfold cj;omega
     have ey:((bX y:Nat):Int)=32:=by unfold bX;omega
     rw[ex,ey]at s1;have S1:=h_ s1;clear ex ey;go_enter Tryz.func24,Tryz.ntmps24;go_wp2_with fail;refine S1.out.mono ?_;rintro e w1 ⟨rfl,bm1,h1,k1,hb1⟩;have ok1:=h1.ok;have h2:=h1.set (d':= {d with on:=false,st:=settled d.st d.aF (cj x) (bX y),aF:= []}) 0 (.bool false) rfl rfl rfl ⟨ok1.len,ok1.sec,ok1.jX,ok1.a0,ok1.a1,ok1.w0,ok1.w1,ok1.b0,ok1.b1,ok1.n1,ok1.n2⟩;have h3:=h2.set (d':= {d with on:=false,st:=settled d.st d.aF (cj x) (bX y),aF:= [],bH:=false}) 4 (.bool false) rfl rfl rfl ⟨ok1.len,ok1.sec,ok1.jX,ok1.a0,ok1.a1,ok1.w0,ok1.w1,ok1.b0,ok1.b1,ok1.n1,ok1.n2⟩;have k0:=h1.bg.ag 0 _ rfl;have g0:=h1.bg.frozen 0;have k4:=h2.bg.ag 4 _ rfl;have g4:=h2.bg.frozen 4;have fin:eM w b bs bm n pv {d with on:=false,st:=settled d.st d.aF (cj x) (bX y),aF:= [],bH:=false} (.tuple #[]) (.returned (.tuple #[])) ((w1.setCell ⟨b,0,none⟩ (.bool false)).setCell ⟨b,4,none⟩ (.bool false)):=
      ⟨rfl,bm1, .slice none 0 0,h3,(k1.setCell (p:=⟨b,0,none⟩) (λ_=> .inl rfl) _).setCell (p:=⟨b,4,none⟩) (λ_=> .inl rfl) _, .inr hb1,λk e=>by simp[Value.ownBlock]at e⟩
     have FIN:=h_ fin;clear fin h1 h2 h3 ok1 k1 hb1 h s1 S1 c0;go_wp2_with fail
     go_end0
     exact FIN.out
    ·have ex:((cj x:Nat):Int)=x:=by unfold cj;omega
     have ey:((bX y:Nat):Int)=y:=by unfold bX;omega
     rw[ex,ey]at s1;have S1:=h_ s1;clear ex ey;go_enter Tryz.func24,Tryz.ntmps24;go_wp2_with fail;refine S1.out.mono ?_;rintro e w1 ⟨rfl,bm1,h1,k1,hb1⟩;have ok1:=h1.ok;have h2:=h1.set (d':= {d with on:=false,st:=settled d.st d.aF (cj x) (bX y),aF:= []}) 0 (.bool false) rfl rfl rfl ⟨ok1.len,ok1.sec,ok1.jX,ok1.a0,ok1.a1,ok1.w0,ok1.w1,ok1.b0,ok1.b1,ok1.n1,ok1.n2⟩;have h3:=h2.set (d':= {d with on:=false,st:=settled d.st d.aF (cj x) (bX y),aF:= [],bH:=false}) 4 (.bool false) rfl rfl rfl ⟨ok1.len,ok1.sec,ok1.jX,ok1.a0,ok1.a1,ok1.w0,ok1.w1,ok1.b0,ok1.b1,ok1.n1,ok1.n2⟩;have k0:=h1.bg.ag 0 _ rfl;have g0:=h1.bg.frozen 0;have k4:=h2.bg.ag 4 _ rfl;have g4:=h2.bg.frozen 4;have fin:eM w b bs bm n pv {d with on:=false,st:=settled d.st d.aF (cj x) (bX y),aF:= [],bH:=false} (.tuple #[]) (.returned (.tuple #[])) ((w1.setCell ⟨b,0,none⟩ (.bool false)).setCell ⟨b,4,none⟩ (.bool false)):=
      ⟨rfl,bm1, .slice none 0 0,h3,(k1.setCell (p:=⟨b,0,none⟩) (λ_=> .inl rfl) _).setCell (p:=⟨b,4,none⟩) (λ_=> .inl rfl) _, .inr hb1,λk e=>by simp[Value.ownBlock]at e⟩
     have FIN:=h_ fin;clear fin h1 h2 h3 ok1 k1 hb1 h s1 S1 c0;go_wp2_with fail
     go_end0
     exact FIN.out
theorem lh(d:DD):d.tick.st=d.st:=by unfold DD.tick;split<;>rfl
theorem Gv(d:DD):d.tick.aF=d.aF:=by unfold DD.tick;split<;>rfl
theorem nP(d:DD)(h:d.dh=true):d.tick=d:=by simp[DD.dh]at h;unfold DD.tick;rw[if_neg (by omega)]
set_option maxHeartbeats 1000000 in
theorem zL(h:aI w b bs bm pv d n):Calls Tryz.prog 191 #[.pointer (some ⟨b,0,none⟩)] w (eM w b bs bm n pv d.sync.1 (.int .i64 d.sync.2)):=by
 have c0:=h.bg.ag 0 _ rfl;cases hon:d.on with
 |false=>
  have e2:d.sync=(d,21):=by simp[DD.sync,hon]
  rw[e2];rw[hon]at c0;have HD:=h_ (Cu h (.int .i64 21));clear e2 h hon;go_enter Tryz.func191,Tryz.ntmps191
  go_wp2
  go_ret;exact HD.out
 |true=>
  rw[hon]at c0;have F1:=h_ (qc h);cases hf:d.dh with
  |true=>
   have e2:d.sync=(d.fail d.writes d.bytes,21):=by simp[DD.sync,hon,hf]
   rw[e2];rw[hf,nP d hf]at F1;have hw0:=h.ok.w0;have hw1:=h.ok.w1;clear e2 hf hon;go_enter Tryz.func191,Tryz.ntmps191;go_wp2_with fail;refine F1.out.mono ?_;rintro e w1 ⟨rfl,h1,k1⟩;have c6:=h1.bg.ag 6 _ rfl;have c7:=h1.bg.ag 7 _ rfl;have D1:=h_ h1;have K1:=h_ k1;clear h1 k1 F1 h c0;go_wp2_with fail;refine Free.ai 9 [] (λw2=>w2.cell? ⟨b,6,none⟩=some (.int .i64 d.writes)/\w2.cell? ⟨b,7,none⟩=some (.int .i64 d.bytes)) (by kernel_rfl) (by kernel_rfl) ?_ ⟨c6,c7⟩ (λ_ _ h g=>⟨df h.1 g,df h.2 g⟩) ?_
   ·intro j mk r hf;simp only[Free.find]at hf;cases hf
   ·simp only[eJ,dT];clear c6 c7;iterate 9 (apply Free.ae (Free.wq rfl) rfl;(intro w' hB hA;obtain⟨q0,q1⟩:=hB;clear hA;go_light;go_simp<;>rfl);(try simp only[Pt]))
    apply Free.ax;intro wz _ hg _;simp only[fm,fo];have hz:=fC hg;have Dz:=h_ (D1.out.below hz);have Kz:=h_ (K1.out.trans (G:=λ_=>False) (aJ.aY hz) (λ_ _ f=>f.elim));clear hg hz;go_wp2_with fail;refine(oD Dz.out d.writes d.bytes hw0 hw1).mono ?_;rintro e w3 ⟨rfl,bm3,pv3,h3,k3,hb3,hp3⟩;have fin:eM w b bs bm n pv (d.fail d.writes d.bytes) (.int .i64 21) (.returned (.int .i64 21)) w3:=
     ⟨rfl,bm3,pv3,h3,Kz.out.trans k3 (λ_ _ f=>f),hb3.imp id (λh=>fO Kz.out.size h),λk e=>(hp3 k e).imp id (λh=>fO Kz.out.size h)⟩
    have FIN:=h_ fin;clear fin h3 k3 hb3 hp3;go_wp2_with fail;go_ret;exact FIN.out
  |false=>
   have e2:d.sync=({d.tick with st:=settled d.st d.aF d.aF.length 0,aF:= []},0):=by simp[DD.sync,hon,hf]
   rw[e2];rw[hf]at F1;have hfew:=h.ok.jX;obtain⟨A,c,rfl⟩:=wV h;clear e2 hf hon;go_enter Tryz.func191,Tryz.ntmps191;go_wp2_with fail;refine F1.out.mono ?_;rintro e w1 ⟨rfl,h1,k1⟩;have c2:=h1.bg.ag 2 _ rfl;have S1:=tI h1 d.aF.length 0 (by omega) (by omega);rw[lh,Gv]at S1;have SS:=h_ S1;have K1:=h_ k1;clear S1 h1 k1 F1 h c0;go_wp2_with fail;refine SS.out.mono ?_;rintro e w3 ⟨rfl,bm3,h3,k3,hb3⟩;have fin:eM w b bs bm n (.slice A d.aF.length c) {d.tick with st:=settled d.st d.aF d.aF.length 0,aF:= []} (.int .i64 0) (.returned (.int .i64 0)) w3:=
    ⟨rfl,bm3, .slice none 0 0,h3,K1.out.trans k3 (λ_ _ f=>f), .inr (fO K1.out.size hb3),λk e=>by simp[Value.ownBlock]at e⟩
   have FIN:=h_ fin;clear fin h3 k3 hb3 SS c2;go_wp2_with fail;go_ret;exact FIN.out
end
section
variable {w:World} {b bs bm n:Nat} {pv:Value} {d:DD}
theorem Cr(l:List UInt8)(g o cap m:Nat)(hm:l.length=m)(hc:∀j u,(l.map C8)[j]? =some u->w.cell? ⟨g,o+j,none⟩=some u):(convert 117 9 (.slice (some ⟨g,o,none⟩) m cap)).run Tryz.prog w= .ok (.string ⟨l.toArray⟩) w:=by subst hm;refine run_convert_bytes_back (P:=Tryz.prog) w 117 9 5 ⟨g,o,none⟩ cap l Tryz.underlying117 Tryz.underlying5 Tryz.underlying9 (λj hj=> ?_);rw[addr_add];exact hc j _ (by rw[mx,eH hj];rfl)
theorem Sn(w:World):(zeroValue 3).run Tryz.prog w= .ok (.int .i64 0) w:=by kernel_rfl
theorem oW(h:aI w b bs bm pv d n)(s:Int):Calls Tryz.prog 100 #[.pointer (some ⟨b,0,none⟩), .int .i64 s] w λe w'=>e= .returned (.tuple #[.string ⟨(DD.read n d s).1.toArray⟩, .int .i64 (DD.read n d s).2])/\w=w':=by
 have c0:=h.bg.ag 0 _ rfl;cases hon:d.on with
 |false=>
  have e2:DD.read n d s=([],21):=by simp[DD.read,hon]
  rw[e2];rw[hon]at c0;clear e2 h hon;go_enter Tryz.func100,Tryz.ntmps100
  go_wp2
  go_ret2
  exact⟨rfl,rfl⟩
 |true=>
  rw[hon]at c0;have H1:=h_ (CZ h s);cases hh:DD.hasB n s with
  |false=>
   have e2:DD.read n d s=([],1):=by simp[DD.read,hon,hh]
   rw[e2];rw[hh]at H1;clear e2 h hon hh;go_enter Tryz.func100,Tryz.ntmps100;go_wp2_with fail;refine H1.out.mono ?_;rintro e w' ⟨rfl,rfl⟩;go_wp2_with fail
   go_ret2
   exact⟨rfl,rfl⟩
  |true=>
   have e2:DD.read n d s=(d.text s.toNat,0):=by simp[DD.read,hon,hh]
   rw[e2];rw[hh]at H1;have hs:=hh;simp[DD.hasB]at hs;obtain⟨m,rfl⟩:∃m:Nat,s=m:=⟨s.toNat,by omega⟩
   have hmn:m<n:=by omega
   have hn2:=h.ok.n2;have hfew:=h.ok.jX;have c3:=h.bg.ag 3 _ rfl;simp only[tZ];clear e2 hon hh;cases hl:fR d.aF (m:Int)with
   |some j=>
    obtain⟨q,x,rfl,hx,hxs⟩:=lX hl;have et:d.text m=x.2:=by simp[DD.text,hl,hx]
    have hlk:=h.map.Fo (P:=Tryz.prog) (t:=132) Tryz.underlying132 Tryz.underlying3 hl;obtain⟨g,cap,rfl,hrg⟩:=h.wT hx;have hl32:=(h.ok.sec q x hx).2;have hq:q<d.aF.length:=(jS.1 hx).1;have c2:=h.bg.ag 2 _ rfl;have hcv:=Cr (w:=w) x.2 g (q*33+1) 32 32 hl32 (λj u hu=>by
     have:=hrg (1+j) u (by rw[Sm];simp only[bu,List.getElem?_cons_succ];exact hu);rw[B8, <-Nat.add_assoc]at this;exact this)
    rw[et];have hqi:(q:Int)<(d.aF.length:Int):=by omega
    clear et hl hrg hx hxs h;go_enter Tryz.func100,Tryz.ntmps100;go_wp2_with fail;refine H1.out.mono ?_;rintro e w' ⟨rfl,rfl⟩;clear H1;go_wp2_with fail
    go_ret2
    exact⟨rfl,rfl⟩
   |none=>
    have et:d.text m=(d.st.drop (32*m)).take 32:=by simp[DD.text,hl]
    have hlk:=h.map.Fm (P:=Tryz.prog) (t:=132) Tryz.underlying132 Tryz.underlying3 (Sn w) hl;have hst:=h.st;have hlen:=h.ok.len;have hcv:=Cr (w:=w) ((d.st.drop (32*m)).take 32) bs (32*m) (32*n-32*m) 32 (by simp;omega) (λj u hu=>by
     refine hst.ag (32*m+j) u ?_;rw[mx]at hu⊢;rw[qC,GI]at hu;split at hu
     ·exact hu
     ·simp at hu)
    rw[et];have S1:=h_ (nK h m hmn);clear et hl h hst;go_enter Tryz.func100,Tryz.ntmps100;go_wp2_with fail;refine H1.out.mono ?_;rintro e w' ⟨rfl,rfl⟩;clear H1;go_wp2_with fail;refine S1.out.mono ?_;rintro e w' ⟨rfl,rfl⟩;go_wp2_with fail
    go_ret2
    exact⟨rfl,rfl⟩
end
end Go.Proofs.YtkmbmfengcdmoaaGreatDoor
