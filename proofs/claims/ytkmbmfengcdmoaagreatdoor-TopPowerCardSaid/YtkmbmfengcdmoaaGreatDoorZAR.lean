/- The disk's Read: what it returns. -/
import Derived.Test.YtkmbmfengcdmoaaGreatDoorZAQ
set_option maxRecDepth 100000
set_option linter.all false
namespace Go.Proofs.YtkmbmfengcdmoaaGreatDoor
open Go.RowKit Go.ay Go.Dk Go.Mp

section
variable {w:World} {b bs bm n:Nat} {pv:Value} {d:DD}
theorem lT{x:Nat×List UInt8}:∀v∈bu x,v.oneCell'=true:=by
 intro v hv;simp only[bu,lC,nS]at hv;rcases hv with rfl|⟨y,_,rfl⟩<;>rfl
theorem wV(h:aI w b bs bm pv d n):∃A c,pv= .slice A d.aF.length c:=by
 rcases h.row.2 with⟨rfl,f⟩|⟨g,a,e,rfl,_⟩
 ·exact⟨none,0,by rw[f]⟩
 ·exact⟨_,_,rfl⟩
def RS(w:World)(b bs bm n ws tb:Nat)(pv:Value)(d:DD)(i:Value)(wr:World):Prop:=
 ∃k:Nat,k<=d.aF.length/\i= .int .i64 k/\aI wr b bs bm pv (rF d ws tb k) n/\aJ (Fp b bs bm pv) w wr
def Cg(w:World)(b bs bm n:Nat)(pv:Value)(d:DD)(e:Ending)(w':World):Prop:=
 e= .returned (.tuple #[])/\∃bm',aI w' b bs bm' (.slice none 0 0) d n/\aJ (Fp b bs bm pv) w w'/\w.heap.size<=bm'
theorem fC{w a:World}(h:Free.Grow w.drew a):Below w.heap.size w a:=⟨h.os,h.tape,h.output,h.size,h.block⟩
theorem df{w w':World}{p:Addr}{v:Value}(h:w.cell? p=some v)(g:Free.Grow w w'):w'.cell? p=some v:=by rw[Below.cell g (World.block_lt_of_cell? w _ h)];exact h
theorem copied{st t:List UInt8}{o:Nat}:(((st.map C8).toArray.toList).take o++(t.map C8++((st.map C8).toArray.toList).drop (o+(t.map C8).length))).toArray=((aX st o t).map C8).toArray:=by simp[aX]
theorem vI{x:Nat×List UInt8}{g:Nat}{T:TypeId}(a:ay w g (bu x) T)(m:Nat):∀j v,((x.2.take m).map C8)[j]? =some v->w.cell? ((⟨g,1,none⟩:Addr).add j)=some v:=by
 intro j v hv;rw[addr_add];refine a.ag (1+j) v ?_;rw[Sm];simp only[bu,List.getElem?_cons_succ];rw[mx,qC]at hv;rw[mx];split at hv
 ·exact hv
 ·simp at hv
theorem tH{ws tb k:Nat}{x:Nat×List UInt8}(a:d.aF[k]? =some x):rR d.st d.aF ws tb (k+1)=if k<ws then aX (rR d.st d.aF ws tb k) (32*x.1) x.2 else if k=ws then aX (rR d.st d.aF ws tb k) (32*x.1) (x.2.take tb)else rR d.st d.aF ws tb k:=by
 conv=>lhs;unfold rR;rw[a]
set_option maxHeartbeats 2000000 in
theorem tI(h:aI w b bs bm pv d n)(ws tb:Nat)(hw:ws<=9223372036854775807)(f8:tb<=32):
  Calls Tryz.prog 68 #[.pointer (some ⟨b,0,none⟩), .int .i64 ws, .int .i64 tb] w (Cg w b bs bm n pv {d with st:=settled d.st d.aF ws tb,aF:= []}):=by
 obtain⟨A,c,rfl⟩:=wV h;have d7:=h.ok.jX;have c2:=h.bg.ag 2 _ rfl;have d6:RS w b bs bm n ws tb (.slice A d.aF.length c) d (.int .i64 0) w:=⟨0,gu _,rfl,h,aJ.refl _ _⟩
 have an:=h_ d6;clear d6;go_enter Tryz.func68,Tryz.ntmps68;go_wp2_with fail
 go_loopw [13] (λi wr=>RS w b bs bm n ws tb (.slice A d.aF.length c) d i wr) (λi _=>d.aF.length- (intOf i).toNat)
 case atStart=>exact an.out
 case round=>
  clear an c2;obtain⟨k,hk,rfl,z,s⟩:=hrel;by_cases R:k<d.aF.length
  ·by_cases co:k<ws
   ·have U:(k:Int)<(ws:Int):=by omega
    have V:((k:Int)==(ws:Int))=false:=by simp;omega
    have dl: ¬(k:Int)=(ws:Int):=by omega
    obtain⟨x,t⟩:∃x,d.aF[k]? =some x:=⟨_,eH R⟩
    obtain⟨g,M,C,D⟩:=z.wT (d:=rF d ws tb k) t;obtain⟨K,hc⟩:A=some ⟨g,0,none⟩/\c=M:=by injection C with h1 h2 h3;exact⟨h1,h3⟩
    subst K hc;have J:=(h.ok.sec k x t).1;have m:=(h.ok.sec k x t).2;have P:=h_ (lS m);have O:Hid ((Tryz.prog.info? 203).map (·.size)=some (bu x).length):=by show _=_;rw[P.out];kernel_rfl
    have H:Hid (wr.rangeAt g (k*33) (bu x)):=by show World.rangeAt _ _ _ _;rw[B8];exact D
    have E:Hid ((bu x).toArray.all (·.oneCell')=true):=all_oneCell_toArray (λv hv=>lT v hv);have B:=z.alloc (.cells (bu x).toArray 203);have F:=h_ B;have G:=h_ (s.alloc (.cells (bu x).toArray 203));have u:=h_ (ay.new wr (bu x) 203);have W:=h_ t;have l:=h.ok;have ci:(k:Int)<(d.aF.length:Int):=by omega
    clear z s B D C t h;go_wp2_with (first|(with_reducible refine wpList_load_mid rfl 203 (.tmp 16) rfl g (k*33) rfl (bu x) _ H.out Tryz.underlying203 rfl O.out ?_)|(with_reducible refine wpList_store_row rfl 203 (.tmp 7) (.tmp 17) rfl wr.heap.size (bu x).toArray rfl rfl 203 _ (heap_alloc_last wr _) (by rw[O.out];simp) (by simp[P.out]) E.out ?_;rw[World.setRow_alloc_new]))
    refine Free.ai 7 [(4, .det (.slice (some ⟨bs,32*x.1,none⟩) 32 (32*n-32*x.1)))] (λZ=>Z.cell? ⟨wr.heap.size,0,none⟩=some (.int .i64 x.1)/\aI Z b bs bm (.slice (some ⟨g,0,none⟩) d.aF.length c) (rF d ws tb k) n/\ay Z wr.heap.size (bu x) 203) (by kernel_rfl) (by kernel_rfl) ?_ ⟨u.out.drew.ag 0 _ rfl,F.out.drew,u.out.drew⟩ (λ_ _ h g=>⟨df h.1 g,h.2.1.below g,h.2.2.below g h.2.2.lt⟩) ?_
    ·intro j mk r X;simp only[Free.find]at X
     repeat' split at X
     all_goals (first|cases X|skip)
    simp only[eJ,dT];iterate 7 (first|(apply Free.aC rfl rfl;(intro w' ⟨S,q,L⟩ K;refine Free.au (f:=113) (args:= #[.pointer (some ⟨b,0,none⟩), .int .i64 x.1]) (by clear S q L K;go_simp) ?_;refine(nK q x.1 J).mono ?_;rintro e w3 ⟨rfl,rfl⟩;exact⟨_,rfl,Free.Grow.refl _,rfl⟩);simp only[Pt])|(apply Free.ae (Free.wq rfl) rfl;(intro w' hB K;obtain⟨S,q,L⟩:=hB;clear K q L;go_light;go_simp<;>rfl);(try simp only[Pt])))
    apply Free.ax;intro wz ⟨S,q,L⟩ hg _;simp only[fm,fo];refine wpList_copy_own rfl (.tmp 25) (.tmp 27) 117 117 rfl 5 Tryz.underlying117 (by kernel_rfl) bs (32*x.1) 32 (32*n-32*x.1) ⟨wr.heap.size,1,none⟩ 32 32 rfl rfl ((rF d ws tb k).st.map C8).toArray 5 q.st (x.2.map C8) (by simp[m]) (by have:=vI L 32;rwa[np (by omega)]at this) (by have:=q.ok.len;have:=q.ok.n2;simp[m];omega) (λv hv=>by obtain⟨y,_,rfl⟩:=nS.1 hv;rfl) ?_;rw[copied];have o:rR d.st d.aF ws tb (k+1)=aX (rF d ws tb k).st (32*x.1) x.2:=by rw[tH W.out,if_pos co];rfl
    have q3:=q.Kb (d':=rF d ws tb (k+1)) (aX (rF d ws tb k).st (32*x.1) x.2) (by unfold rF;rw[o];rfl) (Hz l ws tb (k+1));have N:aJ (Fp b bs bm (.slice (some ⟨g,0,none⟩) d.aF.length c)) w (wz.setRow bs ((aX (rF d ws tb k).st (32*x.1) x.2).map C8).toArray):=(G.out.trans (aJ.aY (fC hg)) (λ_ _ f=>f)).setRow (λ_=> .inr (.inl rfl)) _;have key:RS w b bs bm n ws tb (.slice (some ⟨g,0,none⟩) d.aF.length c) d (.int .i64 ((k:Int)+1)) (wz.setRow bs ((aX (rF d ws tb k).st (32*x.1) x.2).map C8).toArray):=⟨k+1,by omega,by go_num,q3,N⟩
    have I:=h_ key;generalize wz.setRow bs ((aX (rF d ws tb k).st (32*x.1) x.2).map C8).toArray=w4 at I⊢;clear key q3 N o q L S hg G F u H O P E W;go_wp2_with fail
    go_roundw
    case rel=>
     go_light;have key:=I.out;first|exact key|((repeat apply Exists.intro);exact⟨key,rfl⟩)
    case measure=>simp[intOf];omega
   ·by_cases bi:k=ws
    ·subst bi;have U: ¬(k:Int)<(k:Int):=by omega
     have V:((k:Int)==(k:Int))=true:=by simp
     have d8:(tb:Int)<=32:=by omega
     obtain⟨x,t⟩:∃x,d.aF[k]? =some x:=⟨_,eH R⟩
     obtain⟨g,M,C,D⟩:=z.wT (d:=rF d k tb k) t;obtain⟨K,hc⟩:A=some ⟨g,0,none⟩/\c=M:=by injection C with h1 h2 h3;exact⟨h1,h3⟩
     subst K hc;have J:=(h.ok.sec k x t).1;have m:=(h.ok.sec k x t).2;have P:=h_ (lS m);have O:Hid ((Tryz.prog.info? 203).map (·.size)=some (bu x).length):=by show _=_;rw[P.out];kernel_rfl
     have H:Hid (wr.rangeAt g (k*33) (bu x)):=by show World.rangeAt _ _ _ _;rw[B8];exact D
     have E:Hid ((bu x).toArray.all (·.oneCell')=true):=all_oneCell_toArray (λv hv=>lT v hv);have B:=z.alloc (.cells (bu x).toArray 203);have F:=h_ B;have G:=h_ (s.alloc (.cells (bu x).toArray 203));have u:=h_ (ay.new wr (bu x) 203);have W:=h_ t;have l:=h.ok;have ci:(k:Int)<(d.aF.length:Int):=by omega
     clear z s B D C t h;go_wp2_with (first|(with_reducible refine wpList_load_mid rfl 203 (.tmp 16) rfl g (k*33) rfl (bu x) _ H.out Tryz.underlying203 rfl O.out ?_)|(with_reducible refine wpList_store_row rfl 203 (.tmp 7) (.tmp 17) rfl wr.heap.size (bu x).toArray rfl rfl 203 _ (heap_alloc_last wr _) (by rw[O.out];simp) (by simp[P.out]) E.out ?_;rw[World.setRow_alloc_new]))
     refine Free.ai 8 [(4, .det (.slice (some ⟨bs,32*x.1,none⟩) 32 (32*n-32*x.1)))] (λZ=>Z.cell? ⟨wr.heap.size,0,none⟩=some (.int .i64 x.1)/\aI Z b bs bm (.slice (some ⟨g,0,none⟩) d.aF.length c) (rF d k tb k) n/\ay Z wr.heap.size (bu x) 203) (by kernel_rfl) (by kernel_rfl) ?_ ⟨u.out.drew.ag 0 _ rfl,F.out.drew,u.out.drew⟩ (λ_ _ h g=>⟨df h.1 g,h.2.1.below g,h.2.2.below g h.2.2.lt⟩) ?_
     ·intro j mk r X;simp only[Free.find]at X
      repeat' split at X
      all_goals (first|cases X|skip)
     simp only[eJ,dT];iterate 8 (first|(apply Free.aC rfl rfl;(intro w' ⟨S,q,L⟩ K;refine Free.au (f:=113) (args:= #[.pointer (some ⟨b,0,none⟩), .int .i64 x.1]) (by clear S q L K;go_simp) ?_;refine(nK q x.1 J).mono ?_;rintro e w3 ⟨rfl,rfl⟩;exact⟨_,rfl,Free.Grow.refl _,rfl⟩);simp only[Pt])|(apply Free.ae (Free.wq rfl) rfl;(intro w' hB K;obtain⟨S,q,L⟩:=hB;clear K q L;go_light;go_simp<;>rfl);(try simp only[Pt])))
     apply Free.ax;intro wz ⟨S,q,L⟩ hg _;simp only[fm,fo];refine wpList_copy_own rfl (.tmp 36) (.tmp 39) 117 117 rfl 5 Tryz.underlying117 (by kernel_rfl) bs (32*x.1) 32 (32*n-32*x.1) ⟨wr.heap.size,1,none⟩ tb 32 rfl rfl ((rF d k tb k).st.map C8).toArray 5 q.st ((x.2.take tb).map C8) (by simp[m]) (vI L tb) (by have:=q.ok.len;have:=q.ok.n2;simp[m];omega) (λv hv=>by obtain⟨y,_,rfl⟩:=nS.1 hv;rfl) ?_;rw[copied];have o:rR d.st d.aF k tb (k+1)=aX (rF d k tb k).st (32*x.1) (x.2.take tb):=by rw[tH W.out,if_neg (by omega),if_pos rfl];rfl
     have q3:=q.Kb (d':=rF d k tb (k+1)) (aX (rF d k tb k).st (32*x.1) (x.2.take tb)) (by unfold rF;rw[o];rfl) (Hz l k tb (k+1));have N:aJ (Fp b bs bm (.slice (some ⟨g,0,none⟩) d.aF.length c)) w (wz.setRow bs ((aX (rF d k tb k).st (32*x.1) (x.2.take tb)).map C8).toArray):=(G.out.trans (aJ.aY (fC hg)) (λ_ _ f=>f)).setRow (λ_=> .inr (.inl rfl)) _;have key:RS w b bs bm n k tb (.slice (some ⟨g,0,none⟩) d.aF.length c) d (.int .i64 ((k:Int)+1)) (wz.setRow bs ((aX (rF d k tb k).st (32*x.1) (x.2.take tb)).map C8).toArray):=⟨k+1,by omega,by go_num,q3,N⟩
     have I:=h_ key;generalize wz.setRow bs ((aX (rF d k tb k).st (32*x.1) (x.2.take tb)).map C8).toArray=w4 at I⊢;clear key q3 N o q L S hg G F u H O P E W;go_wp2_with fail
     go_roundw
     case rel=>
      go_light;have key:=I.out;first|exact key|((repeat apply Exists.intro);exact⟨key,rfl⟩)
     case measure=>simp[intOf];omega
    ·have U: ¬(k:Int)<(ws:Int):=by omega
     have V:((k:Int)==(ws:Int))=false:=by simp;omega
     have dl: ¬(k:Int)=(ws:Int):=by omega
     obtain⟨x,t⟩:∃x,d.aF[k]? =some x:=⟨_,eH R⟩
     obtain⟨g,M,C,D⟩:=z.wT (d:=rF d ws tb k) t;obtain⟨K,hc⟩:A=some ⟨g,0,none⟩/\c=M:=by injection C with h1 h2 h3;exact⟨h1,h3⟩
     subst K hc;have J:=(h.ok.sec k x t).1;have m:=(h.ok.sec k x t).2;have P:=h_ (lS m);have O:Hid ((Tryz.prog.info? 203).map (·.size)=some (bu x).length):=by show _=_;rw[P.out];kernel_rfl
     have H:Hid (wr.rangeAt g (k*33) (bu x)):=by show World.rangeAt _ _ _ _;rw[B8];exact D
     have E:Hid ((bu x).toArray.all (·.oneCell')=true):=all_oneCell_toArray (λv hv=>lT v hv);have B:=z.alloc (.cells (bu x).toArray 203);have F:=h_ B;have G:=h_ (s.alloc (.cells (bu x).toArray 203));have u:=h_ (ay.new wr (bu x) 203);have W:=h_ t;have l:=h.ok;have ci:(k:Int)<(d.aF.length:Int):=by omega
     clear z s B D C t h;go_wp2_with (first|(with_reducible refine wpList_load_mid rfl 203 (.tmp 16) rfl g (k*33) rfl (bu x) _ H.out Tryz.underlying203 rfl O.out ?_)|(with_reducible refine wpList_store_row rfl 203 (.tmp 7) (.tmp 17) rfl wr.heap.size (bu x).toArray rfl rfl 203 _ (heap_alloc_last wr _) (by rw[O.out];simp) (by simp[P.out]) E.out ?_;rw[World.setRow_alloc_new]))
     have o:rR d.st d.aF ws tb (k+1)=rR d.st d.aF ws tb k:=by rw[tH W.out,if_neg co,if_neg bi]
     have key:RS w b bs bm n ws tb (.slice (some ⟨g,0,none⟩) d.aF.length c) d (.int .i64 ((k:Int)+1)) (wr.alloc (.cells (bu x).toArray 203)):=⟨k+1,by omega,by go_num,by unfold rF;rw[o];exact F.out,G.out⟩
     have I:=h_ key
     go_roundw
     case rel=>
      go_light;have key:=I.out;first|exact key|((repeat apply Exists.intro);exact⟨key,rfl⟩)
     case measure=>simp[intOf];omega
  ·obtain rfl:k=d.aF.length:=by omega
   have l:=h.ok;have c2:=z.bg.ag 2 _ rfl;have f2:=z.bg.frozen 2;have B2:=z.bg.set 2 (.slice none 0 0);have Q:=B2.alloc (.map #[] 0);have c3:=Q.ag 3 _ rfl;have f3:=Q.frozen 3;have B3:=Q.set 3 (.map (some (wr.setCell ⟨b,2,none⟩ (.slice none 0 0)).heap.size));have Y:∀k,k≠b->(((wr.setCell ⟨b,2,none⟩ (.slice none 0 0)).alloc (.map #[] 0)).setCell ⟨b,3,none⟩ (.map (some (wr.setCell ⟨b,2,none⟩ (.slice none 0 0)).heap.size))).heap[k]? =((wr.setCell ⟨b,2,none⟩ (.slice none 0 0)).alloc (.map #[] 0)).heap[k]? :=λk hk=>Below.heap_setCell _ ⟨b,3,none⟩ _ k hk
   have hz:(wr.setCell ⟨b,2,none⟩ (.slice none 0 0)).heap.size=wr.heap.size:=by simp[World.setCell]
   have T:Cg w b bs bm n (.slice A d.aF.length c) {d with st:=settled d.st d.aF ws tb,aF:= []} (.returned (.tuple #[])) (((wr.setCell ⟨b,2,none⟩ (.slice none 0 0)).alloc (.map #[] 0)).setCell ⟨b,3,none⟩ (.map (some (wr.setCell ⟨b,2,none⟩ (.slice none 0 0)).heap.size))):=by
    refine⟨rfl,(wr.setCell ⟨b,2,none⟩ (.slice none 0 0)).heap.size,⟨?_,B3, ?_,World.ownsRow_nil _ _ _ _, ?_⟩, ?_, ?_⟩
    ·exact⟨rS ws tb l.len l.sec _,λi x t=>by simp at t,by simp,l.a0,l.a1,l.w0,l.w1,l.b0,l.b1,l.n1,l.n2⟩
    ·refine(ay.bG ?_ (Y bs z.PN));exact(z.st.cL (a:=⟨b,2,none⟩) (λe=>z.PN e.symm) _).alloc _
    ·refine(bL.made (wr.setCell ⟨b,2,none⟩ (.slice none 0 0))).bD (Y _ ?_);rw[hz];have:=z.bg.lt;omega
    ·exact((s.setCell (p:=⟨b,2,none⟩) (λ_=> .inl rfl) _).alloc _).setCell (p:=⟨b,3,none⟩) (λ_=> .inl rfl) _
    ·rw[hz];exact s.size
   have HF:=h_ T;have d9:= @run_makeMap Tryz.prog;rw[hz]at HF;clear T B2 Q B3 Y h z s R hk l
   go_wp2
   go_end0
   exact HF.out
end
section
variable {w:World} {b bs bm n:Nat} {pv:Value} {d:DD}
def eM(w:World)(b bs bm n:Nat)(pv:Value)(d:DD)(v:Value)(e:Ending)(w':World):Prop:=
 e= .returned v/\∃bm' pv',aI w' b bs bm' pv' d n/\aJ (Fp b bs bm pv) w w'/\(bm'=bm\/w.heap.size<=bm')/\(∀k,pv'.ownBlock=some k->pv.ownBlock=some k\/w.heap.size<=k)
theorem Cu(h:aI w b bs bm pv d n)(v:Value):eM w b bs bm n pv d v (.returned v) w:=⟨rfl,bm,pv,h,aJ.refl _ _, .inl rfl,λ_ h=> .inl h⟩
theorem iY{a:Nat}{c:Value}{w0:World}(g:a=bm\/w0.heap.size<=a)(f:∀k,c.ownBlock=some k->pv.ownBlock=some k\/w0.heap.size<=k)(k:Nat)(i:k<w0.heap.size)(h:Fp b bs a c k):Fp b bs bm pv k:=by
 rcases h with rfl|rfl|rfl|e
 ·exact .inl rfl
 ·exact .inr (.inl rfl)
 ·rcases g with rfl|g
  ·exact .inr (.inr (.inl rfl))
  ·omega
 ·rcases f k e with f|f
  ·exact .inr (.inr (.inr f))
  ·omega
theorem oD(h:aI w b bs bm pv d n)(x y:Int)(F: -9223372036854775808<=x)(G:x<=9223372036854775807):
  Calls Tryz.prog 24 #[.pointer (some ⟨b,0,none⟩), .int .i64 x, .int .i64 y] w (eM w b bs bm n pv (d.fail x y) (.tuple #[])):=by
 have u:=h.bg.ag 0 _ rfl;cases hon:d.on with
 |false=>
  have v:d.fail x y=d:=by simp[DD.fail,hon]
  rw[v];rw[hon]at u;have E:=h_ (Cu h (.tuple #[]));clear v h hon;go_enter Tryz.func24,Tryz.ntmps24
  go_wp2
  refine bodyPost_ret (results_none rfl _ _ _) rfl ?_;exact E.out
 |true=>
  rw[hon]at u;have v:d.fail x y= {d with on:=false,st:=settled d.st d.aF (cj x) (bX y),aF:= [],bH:=false}:=by simp[DD.fail,hon]
  rw[v];have m:=tI h (cj x) (bX y) (by unfold cj;omega) (by unfold bX;omega);clear v hon;by_cases I:x<0
  ·by_cases H:y<0
   ·have o:((cj x:Nat):Int)=0:=by unfold cj;omega
    have q:((bX y:Nat):Int)=0:=by unfold bX;omega
    rw[o,q]at m;have S1:=h_ m;clear o q;go_enter Tryz.func24,Tryz.ntmps24;go_wp2_with fail;refine S1.out.mono ?_;rintro e t ⟨rfl,l,f,s,g⟩;have a:=f.ok;have i:=f.set (d':= {d with on:=false,st:=settled d.st d.aF (cj x) (bX y),aF:= []}) 0 (.bool false) rfl rfl rfl ⟨a.len,a.sec,a.jX,a.a0,a.a1,a.w0,a.w1,a.b0,a.b1,a.n1,a.n2⟩;have r:=i.set (d':= {d with on:=false,st:=settled d.st d.aF (cj x) (bX y),aF:= [],bH:=false}) 4 (.bool false) rfl rfl rfl ⟨a.len,a.sec,a.jX,a.a0,a.a1,a.w0,a.w1,a.b0,a.b1,a.n1,a.n2⟩;have B:=f.bg.ag 0 _ rfl;have z:=f.bg.frozen 0;have C:=i.bg.ag 4 _ rfl;have A:=i.bg.frozen 4;have c:eM w b bs bm n pv {d with on:=false,st:=settled d.st d.aF (cj x) (bX y),aF:= [],bH:=false} (.tuple #[]) (.returned (.tuple #[])) ((t.setCell ⟨b,0,none⟩ (.bool false)).setCell ⟨b,4,none⟩ (.bool false)):=
     ⟨rfl,l, .slice none 0 0,r,(s.setCell (p:=⟨b,0,none⟩) (λ_=> .inl rfl) _).setCell (p:=⟨b,4,none⟩) (λ_=> .inl rfl) _, .inr g,λk e=>by simp[Value.ownBlock]at e⟩
    have j:=h_ c;clear c f i r a s g h m S1 u;go_wp2_with fail
    go_end0
    exact j.out
   ·by_cases D:32<y
    ·have o:((cj x:Nat):Int)=0:=by unfold cj;omega
     have q:((bX y:Nat):Int)=32:=by unfold bX;omega
     rw[o,q]at m;have S1:=h_ m;clear o q;go_enter Tryz.func24,Tryz.ntmps24;go_wp2_with fail;refine S1.out.mono ?_;rintro e t ⟨rfl,l,f,s,g⟩;have a:=f.ok;have i:=f.set (d':= {d with on:=false,st:=settled d.st d.aF (cj x) (bX y),aF:= []}) 0 (.bool false) rfl rfl rfl ⟨a.len,a.sec,a.jX,a.a0,a.a1,a.w0,a.w1,a.b0,a.b1,a.n1,a.n2⟩;have r:=i.set (d':= {d with on:=false,st:=settled d.st d.aF (cj x) (bX y),aF:= [],bH:=false}) 4 (.bool false) rfl rfl rfl ⟨a.len,a.sec,a.jX,a.a0,a.a1,a.w0,a.w1,a.b0,a.b1,a.n1,a.n2⟩;have B:=f.bg.ag 0 _ rfl;have z:=f.bg.frozen 0;have C:=i.bg.ag 4 _ rfl;have A:=i.bg.frozen 4;have c:eM w b bs bm n pv {d with on:=false,st:=settled d.st d.aF (cj x) (bX y),aF:= [],bH:=false} (.tuple #[]) (.returned (.tuple #[])) ((t.setCell ⟨b,0,none⟩ (.bool false)).setCell ⟨b,4,none⟩ (.bool false)):=
      ⟨rfl,l, .slice none 0 0,r,(s.setCell (p:=⟨b,0,none⟩) (λ_=> .inl rfl) _).setCell (p:=⟨b,4,none⟩) (λ_=> .inl rfl) _, .inr g,λk e=>by simp[Value.ownBlock]at e⟩
     have j:=h_ c;clear c f i r a s g h m S1 u;go_wp2_with fail
     go_end0
     exact j.out
    ·have o:((cj x:Nat):Int)=0:=by unfold cj;omega
     have q:((bX y:Nat):Int)=y:=by unfold bX;omega
     rw[o,q]at m;have S1:=h_ m;clear o q;go_enter Tryz.func24,Tryz.ntmps24;go_wp2_with fail;refine S1.out.mono ?_;rintro e t ⟨rfl,l,f,s,g⟩;have a:=f.ok;have i:=f.set (d':= {d with on:=false,st:=settled d.st d.aF (cj x) (bX y),aF:= []}) 0 (.bool false) rfl rfl rfl ⟨a.len,a.sec,a.jX,a.a0,a.a1,a.w0,a.w1,a.b0,a.b1,a.n1,a.n2⟩;have r:=i.set (d':= {d with on:=false,st:=settled d.st d.aF (cj x) (bX y),aF:= [],bH:=false}) 4 (.bool false) rfl rfl rfl ⟨a.len,a.sec,a.jX,a.a0,a.a1,a.w0,a.w1,a.b0,a.b1,a.n1,a.n2⟩;have B:=f.bg.ag 0 _ rfl;have z:=f.bg.frozen 0;have C:=i.bg.ag 4 _ rfl;have A:=i.bg.frozen 4;have c:eM w b bs bm n pv {d with on:=false,st:=settled d.st d.aF (cj x) (bX y),aF:= [],bH:=false} (.tuple #[]) (.returned (.tuple #[])) ((t.setCell ⟨b,0,none⟩ (.bool false)).setCell ⟨b,4,none⟩ (.bool false)):=
      ⟨rfl,l, .slice none 0 0,r,(s.setCell (p:=⟨b,0,none⟩) (λ_=> .inl rfl) _).setCell (p:=⟨b,4,none⟩) (λ_=> .inl rfl) _, .inr g,λk e=>by simp[Value.ownBlock]at e⟩
     have j:=h_ c;clear c f i r a s g h m S1 u;go_wp2_with fail
     go_end0
     exact j.out
  ·by_cases H:y<0
   ·have o:((cj x:Nat):Int)=x:=by unfold cj;omega
    have q:((bX y:Nat):Int)=0:=by unfold bX;omega
    rw[o,q]at m;have S1:=h_ m;clear o q;go_enter Tryz.func24,Tryz.ntmps24;go_wp2_with fail;refine S1.out.mono ?_;rintro e t ⟨rfl,l,f,s,g⟩;have a:=f.ok;have i:=f.set (d':= {d with on:=false,st:=settled d.st d.aF (cj x) (bX y),aF:= []}) 0 (.bool false) rfl rfl rfl ⟨a.len,a.sec,a.jX,a.a0,a.a1,a.w0,a.w1,a.b0,a.b1,a.n1,a.n2⟩;have r:=i.set (d':= {d with on:=false,st:=settled d.st d.aF (cj x) (bX y),aF:= [],bH:=false}) 4 (.bool false) rfl rfl rfl ⟨a.len,a.sec,a.jX,a.a0,a.a1,a.w0,a.w1,a.b0,a.b1,a.n1,a.n2⟩;have B:=f.bg.ag 0 _ rfl;have z:=f.bg.frozen 0;have C:=i.bg.ag 4 _ rfl;have A:=i.bg.frozen 4;have c:eM w b bs bm n pv {d with on:=false,st:=settled d.st d.aF (cj x) (bX y),aF:= [],bH:=false} (.tuple #[]) (.returned (.tuple #[])) ((t.setCell ⟨b,0,none⟩ (.bool false)).setCell ⟨b,4,none⟩ (.bool false)):=
     ⟨rfl,l, .slice none 0 0,r,(s.setCell (p:=⟨b,0,none⟩) (λ_=> .inl rfl) _).setCell (p:=⟨b,4,none⟩) (λ_=> .inl rfl) _, .inr g,λk e=>by simp[Value.ownBlock]at e⟩
    have j:=h_ c;clear c f i r a s g h m S1 u;go_wp2_with fail
    go_end0
    exact j.out
   ·by_cases D:32<y
    ·have o:((cj x:Nat):Int)=x:=by unfold cj;omega
     have q:((bX y:Nat):Int)=32:=by unfold bX;omega
     rw[o,q]at m;have S1:=h_ m;clear o q;go_enter Tryz.func24,Tryz.ntmps24;go_wp2_with fail;refine S1.out.mono ?_;rintro e t ⟨rfl,l,f,s,g⟩;have a:=f.ok;have i:=f.set (d':= {d with on:=false,st:=settled d.st d.aF (cj x) (bX y),aF:= []}) 0 (.bool false) rfl rfl rfl ⟨a.len,a.sec,a.jX,a.a0,a.a1,a.w0,a.w1,a.b0,a.b1,a.n1,a.n2⟩;have r:=i.set (d':= {d with on:=false,st:=settled d.st d.aF (cj x) (bX y),aF:= [],bH:=false}) 4 (.bool false) rfl rfl rfl ⟨a.len,a.sec,a.jX,a.a0,a.a1,a.w0,a.w1,a.b0,a.b1,a.n1,a.n2⟩;have B:=f.bg.ag 0 _ rfl;have z:=f.bg.frozen 0;have C:=i.bg.ag 4 _ rfl;have A:=i.bg.frozen 4;have c:eM w b bs bm n pv {d with on:=false,st:=settled d.st d.aF (cj x) (bX y),aF:= [],bH:=false} (.tuple #[]) (.returned (.tuple #[])) ((t.setCell ⟨b,0,none⟩ (.bool false)).setCell ⟨b,4,none⟩ (.bool false)):=
      ⟨rfl,l, .slice none 0 0,r,(s.setCell (p:=⟨b,0,none⟩) (λ_=> .inl rfl) _).setCell (p:=⟨b,4,none⟩) (λ_=> .inl rfl) _, .inr g,λk e=>by simp[Value.ownBlock]at e⟩
     have j:=h_ c;clear c f i r a s g h m S1 u;go_wp2_with fail
     go_end0
     exact j.out
    ·have o:((cj x:Nat):Int)=x:=by unfold cj;omega
     have q:((bX y:Nat):Int)=y:=by unfold bX;omega
     rw[o,q]at m;have S1:=h_ m;clear o q;go_enter Tryz.func24,Tryz.ntmps24;go_wp2_with fail;refine S1.out.mono ?_;rintro e t ⟨rfl,l,f,s,g⟩;have a:=f.ok;have i:=f.set (d':= {d with on:=false,st:=settled d.st d.aF (cj x) (bX y),aF:= []}) 0 (.bool false) rfl rfl rfl ⟨a.len,a.sec,a.jX,a.a0,a.a1,a.w0,a.w1,a.b0,a.b1,a.n1,a.n2⟩;have r:=i.set (d':= {d with on:=false,st:=settled d.st d.aF (cj x) (bX y),aF:= [],bH:=false}) 4 (.bool false) rfl rfl rfl ⟨a.len,a.sec,a.jX,a.a0,a.a1,a.w0,a.w1,a.b0,a.b1,a.n1,a.n2⟩;have B:=f.bg.ag 0 _ rfl;have z:=f.bg.frozen 0;have C:=i.bg.ag 4 _ rfl;have A:=i.bg.frozen 4;have c:eM w b bs bm n pv {d with on:=false,st:=settled d.st d.aF (cj x) (bX y),aF:= [],bH:=false} (.tuple #[]) (.returned (.tuple #[])) ((t.setCell ⟨b,0,none⟩ (.bool false)).setCell ⟨b,4,none⟩ (.bool false)):=
      ⟨rfl,l, .slice none 0 0,r,(s.setCell (p:=⟨b,0,none⟩) (λ_=> .inl rfl) _).setCell (p:=⟨b,4,none⟩) (λ_=> .inl rfl) _, .inr g,λk e=>by simp[Value.ownBlock]at e⟩
     have j:=h_ c;clear c f i r a s g h m S1 u;go_wp2_with fail
     go_end0
     exact j.out
theorem lh(d:DD):d.tick.st=d.st:=by unfold DD.tick;split<;>rfl
theorem Gv(d:DD):d.tick.aF=d.aF:=by unfold DD.tick;split<;>rfl
theorem nP(d:DD)(h:d.dh=true):d.tick=d:=by simp[DD.dh]at h;unfold DD.tick;rw[if_neg (by omega)]
set_option maxHeartbeats 1000000 in
theorem zL(h:aI w b bs bm pv d n):Calls Tryz.prog 191 #[.pointer (some ⟨b,0,none⟩)] w (eM w b bs bm n pv d.sync.1 (.int .i64 d.sync.2)):=by
 have z:=h.bg.ag 0 _ rfl;cases hon:d.on with
 |false=>
  have m:d.sync=(d,21):=by simp[DD.sync,hon]
  rw[m];rw[hon]at z;have P:=h_ (Cu h (.int .i64 21));clear m h hon;go_enter Tryz.func191,Tryz.ntmps191
  go_wp2
  go_ret;exact P.out
 |true=>
  rw[hon]at z;have s:=h_ (qc h);cases l:d.dh with
  |true=>
   have m:d.sync=(d.fail d.writes d.bytes,21):=by simp[DD.sync,hon,l]
   rw[m];rw[l,nP d l]at s;have C:=h.ok.w0;have D:=h.ok.w1;clear m l hon;go_enter Tryz.func191,Tryz.ntmps191;go_wp2_with fail;refine s.out.mono ?_;rintro e T ⟨rfl,o,v⟩;have I:=o.bg.ag 6 _ rfl;have J:=o.bg.ag 7 _ rfl;have N:=h_ o;have y:=h_ v;clear o v s h z;go_wp2_with fail;refine Free.ai 9 [] (λM=>M.cell? ⟨b,6,none⟩=some (.int .i64 d.writes)/\M.cell? ⟨b,7,none⟩=some (.int .i64 d.bytes)) (by kernel_rfl) (by kernel_rfl) ?_ ⟨I,J⟩ (λ_ _ h g=>⟨df h.1 g,df h.2 g⟩) ?_
   ·intro j U r l;simp only[Free.find]at l;cases l
   ·simp only[eJ,dT];clear I J;iterate 9 (apply Free.ae (Free.wq rfl) rfl;(intro X S R;obtain⟨V,W⟩:=S;clear R;go_light;go_simp<;>rfl);(try simp only[Pt]))
    apply Free.ax;intro Y _ L _;simp only[fm,fo];have hz:=fC L;have O:=h_ (N.out.below hz);have B:=h_ (y.out.trans (G:=λ_=>False) (aJ.aY hz) (λ_ _ f=>f.elim));clear L hz;go_wp2_with fail;refine(oD O.out d.writes d.bytes C D).mono ?_;rintro e F ⟨rfl,q,E,t,x,i,u⟩;have a:eM w b bs bm n pv (d.fail d.writes d.bytes) (.int .i64 21) (.returned (.int .i64 21)) F:=
     ⟨rfl,q,E,t,B.out.trans x (λ_ _ f=>f),i.imp id (λh=>fO B.out.size h),λk e=>(u k e).imp id (λh=>fO B.out.size h)⟩
    have p:=h_ a;clear a t x i u;go_wp2_with fail;go_ret;exact p.out
  |false=>
   have m:d.sync=({d.tick with st:=settled d.st d.aF d.aF.length 0,aF:= []},0):=by simp[DD.sync,hon,l]
   rw[m];rw[l]at s;have K:=h.ok.jX;obtain⟨A,c,rfl⟩:=wV h;clear m l hon;go_enter Tryz.func191,Tryz.ntmps191;go_wp2_with fail;refine s.out.mono ?_;rintro e T ⟨rfl,o,v⟩;have Q:=o.bg.ag 2 _ rfl;have S1:=tI o d.aF.length 0 (by omega) (by omega);rw[lh,Gv]at S1;have H:=h_ S1;have y:=h_ v;clear S1 o v s h z;go_wp2_with fail;refine H.out.mono ?_;rintro e F ⟨rfl,q,t,x,i⟩;have a:eM w b bs bm n (.slice A d.aF.length c) {d.tick with st:=settled d.st d.aF d.aF.length 0,aF:= []} (.int .i64 0) (.returned (.int .i64 0)) F:=
    ⟨rfl,q, .slice none 0 0,t,y.out.trans x (λ_ _ f=>f), .inr (fO y.out.size i),λk e=>by simp[Value.ownBlock]at e⟩
   have p:=h_ a;clear a t x i H Q;go_wp2_with fail;go_ret;exact p.out
end
section
variable {w:World} {b bs bm n:Nat} {pv:Value} {d:DD}
theorem Cr(l:List UInt8)(g o cap m:Nat)(hm:l.length=m)(a:∀j u,(l.map C8)[j]? =some u->w.cell? ⟨g,o+j,none⟩=some u):(convert 117 9 (.slice (some ⟨g,o,none⟩) m cap)).run Tryz.prog w= .ok (.string ⟨l.toArray⟩) w:=by subst hm;refine run_convert_bytes_back (P:=Tryz.prog) w 117 9 5 ⟨g,o,none⟩ cap l Tryz.underlying117 Tryz.underlying5 Tryz.underlying9 (λj c=> ?_);rw[addr_add];exact a j _ (by rw[mx,eH c];rfl)
theorem Sn(w:World):(zeroValue 3).run Tryz.prog w= .ok (.int .i64 0) w:=by kernel_rfl
theorem oW(h:aI w b bs bm pv d n)(s:Int):Calls Tryz.prog 100 #[.pointer (some ⟨b,0,none⟩), .int .i64 s] w λe w'=>e= .returned (.tuple #[.string ⟨(DD.read n d s).1.toArray⟩, .int .i64 (DD.read n d s).2])/\w=w':=by
 have A:=h.bg.ag 0 _ rfl;cases hon:d.on with
 |false=>
  have a:DD.read n d s=([],21):=by simp[DD.read,hon]
  rw[a];rw[hon]at A;clear a h hon;go_enter Tryz.func100,Tryz.ntmps100
  go_wp2
  go_ret2
  exact⟨rfl,rfl⟩
 |true=>
  rw[hon]at A;have c:=h_ (CZ h s);cases hh:DD.hasB n s with
  |false=>
   have a:DD.read n d s=([],1):=by simp[DD.read,hon,hh]
   rw[a];rw[hh]at c;clear a h hon hh;go_enter Tryz.func100,Tryz.ntmps100;go_wp2_with fail;refine c.out.mono ?_;rintro e w' ⟨rfl,rfl⟩;go_wp2_with fail
   go_ret2
   exact⟨rfl,rfl⟩
  |true=>
   have a:DD.read n d s=(d.text s.toNat,0):=by simp[DD.read,hon,hh]
   rw[a];rw[hh]at c;have G:=hh;simp[DD.hasB]at G;obtain⟨m,rfl⟩:∃m:Nat,s=m:=⟨s.toNat,by omega⟩
   have y:m<n:=by omega
   have E:=h.ok.n2;have B:=h.ok.jX;have I:=h.bg.ag 3 _ rfl;simp only[tZ];clear a hon hh;cases hl:fR d.aF (m:Int)with
   |some j=>
    obtain⟨q,x,rfl,p,z⟩:=lX hl;have i:d.text m=x.2:=by simp[DD.text,hl,p]
    have v:=h.map.Fo (P:=Tryz.prog) (t:=132) Tryz.underlying132 Tryz.underlying3 hl;obtain⟨g,D,rfl,l⟩:=h.wT p;have k:=(h.ok.sec q x p).2;have J:q<d.aF.length:=(jS.1 p).1;have H:=h.bg.ag 2 _ rfl;have r:=Cr (w:=w) x.2 g (q*33+1) 32 32 k (λj u f=>by
     have:=l (1+j) u (by rw[Sm];simp only[bu,List.getElem?_cons_succ];exact f);rw[B8, <-Nat.add_assoc]at this;exact this)
    rw[i];have F:(q:Int)<(d.aF.length:Int):=by omega
    clear i hl l p z h;go_enter Tryz.func100,Tryz.ntmps100;go_wp2_with fail;refine c.out.mono ?_;rintro e w' ⟨rfl,rfl⟩;clear c;go_wp2_with fail
    go_ret2
    exact⟨rfl,rfl⟩
   |none=>
    have i:d.text m=(d.st.drop (32*m)).take 32:=by simp[DD.text,hl]
    have v:=h.map.Fm (P:=Tryz.prog) (t:=132) Tryz.underlying132 Tryz.underlying3 (Sn w) hl;have o:=h.st;have C:=h.ok.len;have r:=Cr (w:=w) ((d.st.drop (32*m)).take 32) bs (32*m) (32*n-32*m) 32 (by simp;omega) (λj u f=>by
     refine o.ag (32*m+j) u ?_;rw[mx]at f⊢;rw[qC,GI]at f;split at f
     ·exact f
     ·simp at f)
    rw[i];have S1:=h_ (nK h m y);clear i hl h o;go_enter Tryz.func100,Tryz.ntmps100;go_wp2_with fail;refine c.out.mono ?_;rintro e w' ⟨rfl,rfl⟩;clear c;go_wp2_with fail;refine S1.out.mono ?_;rintro e w' ⟨rfl,rfl⟩;go_wp2_with fail
    go_ret2
    exact⟨rfl,rfl⟩
end
end Go.Proofs.YtkmbmfengcdmoaaGreatDoor
