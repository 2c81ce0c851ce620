/- The walk of digest.padded: the end of a text with what follows it, for an end shorter than a block and a length below 2^48. -/
import Derived.Test.YtkmbmfengcdmoaaGreatDoorZAB
import Derived.Test.YtkmbmfengcdmoaaGreatDoorRows
import Derived.WalkSpells
import Derived.WalkLawsBesides
import Derived.Deep.QuietTactic
import Derived.BigQuiet
import Derived.StillTailTactics
import Derived.Outline
import Derived.Deep.Light
import Derived.Test.YtkmbmfengcdmoaaGreatDoorZAA
set_option maxRecDepth 100000
set_option linter.all false
namespace Go.Proofs.YtkmbmfengcdmoaaGreatDoor
open Go.RowKit Go.W32 Go.ay

theorem QO(cs:Array Value)(k:Nat)(v:Value)(hv:cs[k]? =some v)(d:k<64)(w:World):(Instr.index 331 (.agg cs) (.int .i64 k)).run Tryz.prog w= .ok v w:=by
 have a:(0:Int)<=(k:Int):=by omega
 have b:(k:Int)<64:=by omega
 have c:(k:Int).toNat=k:=by omega
 unfold Instr.index part;go_simp
theorem QP(cs:Array Value)(k:Nat)(v:Value)(hv:cs[k]? =some v)(d:k<8)(w:World):(Instr.index 292 (.agg cs) (.int .i64 k)).run Tryz.prog w= .ok v w:=by
 have a:(0:Int)<=(k:Int):=by omega
 have b:(k:Int)<8:=by omega
 have c:(k:Int).toNat=k:=by omega
 unfold Instr.index part;go_simp

theorem OO:(Tryz.prog.info? 331).map (·.size)=some 64:=by kernel_rfl
def Qc(w:World)(bv:Nat)(K:List UInt32)(s:ByteArray)(x:S8)(i:Value)(wr:World):Prop:=
 ∃k:Nat,k<=64/\i= .int .i64 k/\ay wr bv (rounds K (mX 48 (dM s)) x k).cells 292/\ay wr w.heap.size x.cells 292/\ay wr (w.heap.size+1) (List.replicate 8 (W 0)) 292/\Below (w.heap.size) w wr
theorem Q0:IntKind.u32.max=4294967295:=by decide
theorem Hv(y:S8):bits BinOp.xor IntKind.u32 (bits BinOp.and IntKind.u32 ↑y.e.toNat ↑y.f.toNat) (bits BinOp.and IntKind.u32 (bits BinOp.xor IntKind.u32 IntKind.u32.max ↑y.e.toNat) ↑y.g.toNat)=(((y.e&&&y.f) ^^^ (~~~y.e&&&y.g)).toNat:Int):=by rw[Q0,Rn,uI,uI,vR]
theorem Ma(y:S8):bits BinOp.xor IntKind.u32 (bits BinOp.xor IntKind.u32 (bits BinOp.and IntKind.u32 ↑y.a.toNat ↑y.b.toNat) (bits BinOp.and IntKind.u32 ↑y.a.toNat ↑y.c.toNat)) (bits BinOp.and IntKind.u32 ↑y.b.toNat ↑y.c.toNat)=((((y.a&&&y.b) ^^^ (y.a&&&y.c)) ^^^ (y.b&&&y.c)).toNat:Int):=by rw[uI,uI,uI,vR,vR]
theorem O5(y:S8)(d i:UInt32):((y.h.toNat:Int)+ ↑(kS y.e [6,11,25]).toNat+bits BinOp.xor IntKind.u32 (bits BinOp.and IntKind.u32 ↑y.e.toNat ↑y.f.toNat) (bits BinOp.and IntKind.u32 (bits BinOp.xor IntKind.u32 IntKind.u32.max ↑y.e.toNat) ↑y.g.toNat)+ ↑d.toNat+ ↑i.toNat+
  (↑(kS y.a [2,13,22]).toNat+bits BinOp.xor IntKind.u32 (bits BinOp.xor IntKind.u32 (bits BinOp.and IntKind.u32 ↑y.a.toNat ↑y.b.toNat) (bits BinOp.and IntKind.u32 ↑y.a.toNat ↑y.c.toNat)) (bits BinOp.and IntKind.u32 ↑y.b.toNat ↑y.c.toNat))) % 4294967296=((tP y d i+tQ y).toNat:Int):=by
 rw[Hv,Ma, <-add_mod];unfold tP tQ;rw[<-add_mod, <-add_mod, <-add_mod, <-add_mod, <-add_mod];simp only[Int.emod_add_emod,Int.add_emod_emod]
theorem OB(y:S8)(a b:UInt32):((y.d.toNat:Int)+(↑y.h.toNat+ ↑(kS y.e [6,11,25]).toNat+bits BinOp.xor IntKind.u32 (bits BinOp.and IntKind.u32 ↑y.e.toNat ↑y.f.toNat) (bits BinOp.and IntKind.u32 (bits BinOp.xor IntKind.u32 IntKind.u32.max ↑y.e.toNat) ↑y.g.toNat)+ ↑a.toNat+ ↑b.toNat)) % 4294967296=((y.d+tP y a b).toNat:Int):=by rw[Hv, <-add_mod];unfold tP;rw[<-add_mod, <-add_mod, <-add_mod, <-add_mod];simp only[Int.emod_add_emod,Int.add_emod_emod]
theorem FV{w:World}{h:Nat}{K ws:List UInt32}{s:ByteArray}{x y:S8}{k:Nat}{l:World}{m n:UInt32}{o:Obj}(u:k<64)(hv:w.heap.size+1+1<h)(v:y=rounds K (mX 48 (dM s)) x k)(p:ws=mX 48 (dM s))(r:m=K.getD k 0)(t:n=ws.getD k 0)
  (z:ay l h y.cells 292) (A:ay l w.heap.size x.cells 292) (B:ay l (w.heap.size+1) (List.replicate 8 (W 0)) 292) (q:Below w.heap.size w l):
  Qc w h K s x (.int .i64 (↑k+1)) (((((((((l.setCell ⟨h,0,none⟩ (.int .u32 (tP y m n+tQ y).toNat)).setCell ⟨h,1,none⟩ (.int .u32 y.a.toNat)).setCell ⟨h,2,none⟩ (.int .u32 y.b.toNat)).setCell ⟨h,3,none⟩ (.int .u32 y.c.toNat)).setCell ⟨h,4,none⟩ (.int .u32 (y.d+tP y m n).toNat)).setCell ⟨h,5,none⟩ (.int .u32 y.e.toNat)).setCell ⟨h,6,none⟩ (.int .u32 y.f.toNat)).setCell ⟨h,7,none⟩ (.int .u32 y.g.toNat)).alloc o):=by
 have e:rounds K (mX 48 (dM s)) x (k+1)=round y m n:=by rw[rounds, <-v, <-p, <-r, <-t]
 have ne:∀(b:Nat),b<=w.heap.size+1->∀i:Nat,(⟨h,i,none⟩:Addr).block≠b:=λb j i=>by simp;omega
 refine⟨k+1,by omega,by go_num, ?_, ?_, ?_, ?_⟩
 ·rw[e];exact((((((((z.set 0 _).set 1 _).set 2 _).set 3 _).set 4 _).set 5 _).set 6 _).set 7 _).alloc _
 ·exact((((((((A.cL (ne _ (by omega) _) _).cL (ne _ (by omega) _) _).cL (ne _ (by omega) _) _).cL (ne _ (by omega) _) _).cL (ne _ (by omega) _) _).cL (ne _ (by omega) _) _).cL (ne _ (by omega) _) _).cL (ne _ (by omega) _) _).alloc _
 ·exact((((((((B.cL (ne _ (by omega) _) _).cL (ne _ (by omega) _) _).cL (ne _ (by omega) _) _).cL (ne _ (by omega) _) _).cL (ne _ (by omega) _) _).cL (ne _ (by omega) _) _).cL (ne _ (by omega) _) _).cL (ne _ (by omega) _) _).alloc _
 ·have j:∀i:Nat,w.heap.size<=(⟨h,i,none⟩:Addr).block:=λi=>by simp;omega
  exact((((((((q.setCell (j _) _).setCell (j _) _).setCell (j _) _).setCell (j _) _).setCell (j _) _).setCell (j _) _).setCell (j _) _).setCell (j _) _).alloc (by simp[World.setCell];exact q.size) _

def S8.list(x:S8):List UInt32:= [x.a,x.b,x.c,x.d,x.e,x.f,x.g,x.h]
def Qd(w:World)(x y:S8)(i:Value)(wr:World):Prop:=
 ∃(k:Nat) (l:List UInt32),k<=8/\i= .int .i64 k/\l.length=8/\(∀j,j<8->l[j]? =some (if j<k then x.list.getD j 0+y.list.getD j 0 else x.list.getD j 0))/\ay wr w.heap.size (l.map W) 292/\ay wr (w.heap.size+1) (List.replicate 8 (W 0)) 292/\Below w.heap.size w wr
theorem Tr{l:List UInt32}{x y:S8}(b:l.length=8)(h:∀j,j<8->l[j]? =some (if j<8 then x.list.getD j 0+y.list.getD j 0 else x.list.getD j 0)):l=(x.add y).list:=by
 apply rC;intro i;by_cases a:i<8
 ·rw[h i a,if_pos a]
  match i,a with
  |0,_|1,_|2,_|3,_|4,_|5,_|6,_|7,_=>rfl
 ·rw[pz (by omega),pz (by simp[S8.list];omega)]
theorem wM(x:S8)(k:Nat)(h:k<8):x.list[k]? =some (x.list.getD k 0):=by rw[BX,eH (by simpa[S8.list]using h)];rfl
theorem FW{w wr:World}{x y:S8}{k:Nat}{l:List UInt32}(d:k<8)(c:l.length=8)(h:∀j,j<8->l[j]? =some (if j<k then x.list.getD j 0+y.list.getD j 0 else x.list.getD j 0))
  (f:ay wr w.heap.size (l.map W) 292) (g:ay wr (w.heap.size+1) (List.replicate 8 (W 0)) 292) (i:Below w.heap.size w wr):
  Qd w x y (.int .i64 (↑k+1)) (wr.setCell ⟨w.heap.size,k,none⟩ (.int .u32 (x.list.getD k 0+y.list.getD k 0).toNat)):=by
 refine⟨k+1,l.set k (x.list.getD k 0+y.list.getD k 0),by omega,by go_num,by simp[c], ?_, ?_,g.cL (by simp) _,i.setCell (aL _) _⟩
 ·intro j b;by_cases e:j=k
  ·subst e;rw[Sk (by omega),if_pos (by omega)]
  ·rw[List.getElem?_set_ne (by omega),h j b];by_cases a:j<k
   ·rw[if_pos a,if_pos (by omega)]
   ·rw[if_neg a,if_neg (by omega)]
 ·rw[Py];exact f.set k _
attribute [local go_sem] TI TH TP

set_option maxHeartbeats 4000000 in
theorem vm(x:S8)(K:List UInt32)(s:ByteArray)(hs:s.size=64)(w:World)(hK:∀t,t<64->w.cell? ⟨0,t,none⟩=some (.int .u32 (K.getD t 0).toNat)):
  Calls Tryz.prog 201 #[.agg #[.int .u32 x.a.toNat, .int .u32 x.b.toNat, .int .u32 x.c.toNat, .int .u32 x.d.toNat, .int .u32 x.e.toNat, .int .u32 x.f.toNat, .int .u32 x.g.toNat, .int .u32 x.h.toNat], .string s] w λe w'=>e= .returned (.agg (yO K x s).cells.toArray)/\Below w.heap.size w w':=by
 have HS:=h_ hs;have HK:=h_ hK;have i':s.size<=64:=by omega
 have jp:64<=s.size:=by omega
 clear hs hK;go_enter Tryz.func201,Tryz.ntmps201;go_wp2_with fail
 go_loopw [24] (λi wr=>SH w s x i wr) (λi _=>16- (intOf i).toNat)
 case atStart=>
  refine⟨0,List.replicate 64 0,by omega,rfl,by simp,by omega, ?_, ?_, ?_, ?_⟩
  ·exact ay.made (by simp) (by simp[W])
  ·exact((ay.made rfl (by simp[W,S8.cells])).alloc _).alloc _
  ·exact(ay.made (by simp) (by simp[W])).alloc _
  ·exact(((Below.refl _ _).alloc (aL _) _).alloc (by simp) _).alloc (by simp;omega) _
 case round=>
  obtain⟨k,F,hk,rfl,G,M,u,n,m,o⟩:=hrel;have H:=h_ G;have P:=h_ M;clear G M;by_cases q:k<16
  ·as_aux_lemma=>
   have i8:=u.frozen k;obtain⟨y,hx⟩:∃x,F[k]? =some x:=⟨F[k]'(by have:=H.out;omega),by simp⟩
   have gc:=u.ag k (.int .u32 y.toNat) (by simp[hx,W]);have HX:=h_ hx;clear hx;have i0:(0:Int)<=(k:Int):=by omega
   have i1:(k:Int)<64:=by omega
   go_wp2_with fail;have gt:(s.extract (4*k) (4*k+4)).size=4:=by simp;omega
   go_still_tail 20,(by kernel_rfl)
   change wpList _ _ _ _ _ wr.drew
   go_wp2
   go_roundw
   case rel=>
    rw[Oj s HS.out k q gt];refine⟨k+1,F.set k (be s k),by omega,by go_num,by simp[H.out], ?_, ?_, ?_, ?_, ?_⟩
    ·exact JY P.out (by rw[H.out];omega)
    ·rw[Py];exact(u.set k _).drew
    ·exact(n.cL (by simp;omega) _).drew
    ·exact(m.cL (by simp) _).drew
    ·exact(o.setCell (by simp;omega) _).drew
   case measure=>simp[intOf];omega
  ·obtain rfl:k=16:=by omega
   clear q hk;have an:=h_ (AE H.out P.out);clear P;go_wp2_with fail;obtain⟨wo,rfl⟩:=x_ (wr:World)
   go_loopw [8] (λi wr=>Qb w s x i wr) (λi _=>64- (intOf i).toNat)
   case atStart=>exact⟨16,F,by omega,by omega,rfl,H.out,an.out,u,n,m,o⟩
   case round=>
    clear u n m o H an;clear F;obtain⟨k,F,ci,ge,rfl,G,M,u,n,m,o⟩:=hrel;have H:=h_ G;have P:=h_ M;clear G M;by_cases q:k<64
    ·have L:(mX (k-16) (dM s)).length=k:=by rw[Ir,yB];omega
     obtain⟨l,G⟩:=x_ (mX (k-16) (dM s))
     rw[<-G]at L;have D:=h_ L;have HE:=h_ G;have HT:Hid (F.take k=l):=by rw[G];exact P.out
     clear G L P;obtain⟨O,T⟩:=x_ (l.getD (k-15) 0)
     obtain⟨d6,U⟩:=x_ (l.getD (k-16) 0)
     obtain⟨x7,e7⟩:=x_ (l.getD (k-7) 0)
     obtain⟨x2,e2⟩:=x_ (l.getD (k-2) 0)
     obtain⟨y,ey⟩:∃y,F[k]? =some y:=⟨F[k]'(by have:=H.out;omega),by simp⟩
     have io:=u.ag (k-15) (.int .u32 O.toNat) (by rw[mx,mP HT.out D.out (by omega), <-T];rfl);have f9:=u.ag (k-16) (.int .u32 d6.toNat) (by rw[mx,mP HT.out D.out (by omega), <-U];rfl);have c7:=u.ag (k-7) (.int .u32 x7.toNat) (by rw[mx,mP HT.out D.out (by omega), <-e7];rfl);have c2:=u.ag (k-2) (.int .u32 x2.toNat) (by rw[mx,mP HT.out D.out (by omega), <-e2];rfl);have d7:=h_ T;have d8:=h_ U;have E7:=h_ e7;have E2:=h_ e2;have EY:=h_ ey;clear T U e7 e2 ey;have i0:(0:Int)<=(k:Int):=by omega
     have i1:(k:Int)<64:=by omega
     go_wp2_with fail
     go_quiet (fail)
     go_wp2_with fail;have b1:(16:Int)<=(k:Int):=by omega
     have b2:(k:Int)-16<64:=by omega
     have b4:(7:Int)<=(k:Int):=by omega
     have b5:(k:Int)-7<64:=by omega
     have b3:((k:Int)-16).toNat=k-16:=by omega
     have b6:((k:Int)-7).toNat=k-7:=by omega
     have b7:IntKind.i64.wrap ((k:Int)-16)=(k:Int)-16:=IntWalk.i64_in _ (by omega);have b8:IntKind.i64.wrap ((k:Int)-7)=(k:Int)-7:=IntWalk.i64_in _ (by omega);generalize ha:Act.mk _ _=a;have sz:a.tmps.size=174:=by rw[<-ha];rfl
     have s5:a.tmps[5]'(by omega)= .pointer (some ⟨w.heap.size+1+1,0,none⟩):=by subst ha;rfl
     have s8:a.tmps[8]'(by omega)= .int .i64 k:=by subst ha;rfl
     have s9:a.tmps[9]'(by omega)= .int .u32 O.toNat:=by subst ha;rfl
     have kw:a.tmps[10]'(by omega)= .int .u32 x2.toNat:=by subst ha;rfl
     have HA:=h_ ha;clear ha;refine Free.ai 25 [(6, .ind (λx=> .slice (some ⟨x,0,none⟩) 2 2) (λx C=>ay C x [.int .i64 7, .int .i64 18] 3)),(7, .det (.int .u32 (kS O [7,18]).toNat)),(18, .ind (λx=> .slice (some ⟨x,0,none⟩) 2 2) (λx C=>ay C x [.int .i64 17, .int .i64 19] 3)),(19, .det (.int .u32 (kS x2 [17,19]).toNat))] (λC=>C.cell? ⟨w.heap.size+1+1,k-16,none⟩=some (.int .u32 d6.toNat)/\C.cell? ⟨w.heap.size+1+1,k-7,none⟩=some (.int .u32 x7.toNat)) (by kernel_rfl) (by kernel_rfl) ?_ ⟨f9,c7⟩ (λ_ _ h g=>⟨dJ h.1 g,dJ h.2 g⟩) ?_
     ·intro j mk r R;simp only[Free.find]at R
      repeat' split at R
      all_goals (first|cases R|skip)
      all_goals exact λx w w' h g=>h.below g h.lt
     ·simp only[eJ,dT];iterate 7 (first|(apply Free.aR rfl rfl;(intro w' ⟨hb1,hb2⟩ hA;refine Free.cq (by go_simp<;>rfl) ⟨Free.Grow.alloc _ _,w'.heap.size,rfl,ay.yQ _ _ _⟩))|(apply Free.ae rfl rfl;(intro w' ⟨hb1,hb2⟩ hA;clear hA;go_light;go_simp<;>rfl)))
      intro x1;apply Free.aC rfl rfl
      ·intro w' ⟨hb1,hb2⟩ hA;have E:=hA _ dH (by kernel_rfl);refine Free.au (by go_simp;exact⟨rfl,rfl⟩) ?_;refine(RF O x1 7 18 _ (by decide) (by decide) ?_ ?_).mono ?_
       ·exact E.ag 0 _ rfl
       ·exact E.ag 1 _ rfl
       ·rintro e C ⟨rfl,rfl⟩;exact⟨_,rfl,Free.Grow.refl _,rfl⟩
      iterate 11 (first|(apply Free.aR rfl rfl;(intro w' ⟨hb1,hb2⟩ hA;refine Free.cq (by go_simp<;>rfl) ⟨Free.Grow.alloc _ _,w'.heap.size,rfl,ay.yQ _ _ _⟩))|(apply Free.ae rfl rfl;(intro w' ⟨hb1,hb2⟩ hA;clear hA;go_light;go_simp<;>rfl)))
      intro x3;apply Free.aC rfl rfl
      ·intro w' ⟨hb1,hb2⟩ hA;have E:=hA _ dH (by kernel_rfl);refine Free.au (by go_simp;exact⟨rfl,rfl⟩) ?_;refine(RF x2 x3 17 19 _ (by decide) (by decide) ?_ ?_).mono ?_
       ·exact E.ag 0 _ rfl
       ·exact E.ag 1 _ rfl
       ·rintro e C ⟨rfl,rfl⟩;exact⟨_,rfl,Free.Grow.refl _,rfl⟩
      iterate 5 (apply Free.ae rfl rfl;(intro w' ⟨hb1,hb2⟩ hA;clear hA;go_light;go_simp<;>rfl))
      apply Free.ax;intro C _ hg _;have A:=sJ hg;clear hg;have B:=u.below A u.lt;have q1:=n.below A n.lt;have q2:=m.below A m.lt;have q3:Below w.heap.size w C:=o.trans (A.mono o.size);have ii:=B.ag k (.int .u32 y.toNat) (by rw[mx,EY.out];rfl);have ip:=B.frozen k;clear A;clear b3 b6 b7 b8;simp only[fm,fo];obtain rfl:=HA.out
      go_wp2
      go_roundw
      case rel=>
       go_light;rw[Jj];exact FU ci q H.out D.out HE.out HT.out B q1 q2 q3 _ (by rw[d7.out,d8.out,E7.out,E2.out])
      case measure=>simp[intOf];omega
    ·obtain rfl:k=64:=by omega
     clear q ci ge;have f8:Hid (F=mX 48 (dM s)):=by have:=P.out;rwa[np (by rw[H.out];omega)]at this
     clear P;have S:Hid (wr.heap[w.heap.size]? =some (.cells #[.int .u32 x.a.toNat, .int .u32 x.b.toNat, .int .u32 x.c.toNat, .int .u32 x.d.toNat, .int .u32 x.e.toNat, .int .u32 x.f.toNat, .int .u32 x.g.toNat, .int .u32 x.h.toNat] 292 (0,0))):=n;have dl:(Tryz.prog.info? 331).map (·.size)=some (F.map W).toArray.size:=by
      have:(F.map W).toArray.size=64:=by simp[H.out]
      rw[this];exact OO
     have bi:=h_ dl;clear dl;go_wp2_with (first|(refine wpList_load_row rfl 292 _ rfl _ rfl 292 _ (0,0) _ S.out Tryz.underlying292 rfl (by kernel_rfl) ?_)|(refine wpList_load_row rfl 331 _ rfl _ rfl 331 _ (0,0) _ (u.alloc _) Tryz.underlying331 rfl bi.out ?_))
     obtain⟨g8,rfl⟩:=x_ (wr:World)
     obtain⟨bv,I⟩:=x_ g8.heap.size
     have d9:=h_ I;have g7:w.heap.size+1+1<bv:=by rw[I];exact u.lt
     rw[<-I]
     go_loopw [94] (λi wr=>Qc w bv K s x i wr) (λi _=>64- (intOf i).toNat)
     case atStart=>
      exact⟨0,by omega,rfl,ay.made I rfl,n.alloc _,m.alloc _,o.alloc o.size _⟩
     case round=>
      clear I d9 u n m o S bi;obtain⟨k,hk,rfl,u,n,m,o⟩:=hrel;by_cases q:k<64
      ·obtain⟨y,Z⟩:=x_ (rounds K (mX 48 (dM s)) x k)
       rw[<-Z]at u;have HY:=h_ Z;clear Z;obtain⟨kt,V⟩:=x_ (K.getD k 0)
       obtain⟨wt,X⟩:=x_ (F.getD k 0)
       have cK:wr.cell? ⟨0,k,none⟩=some (.int .u32 kt.toNat):=by have h:=HK.out k q;rw[<-V]at h;rw[o.cell (p:=⟨0,k,none⟩) (World.block_lt_of_cell? w _ h)];exact h
       have J:=λwx=>QO (F.map W).toArray k (.int .u32 wt.toNat) (by
        rw[X,List.getElem?_toArray,mx,BX,eH (by rw[H.out];exact q)];rfl) q wx
       have EK:=h_ V;have EW:=h_ X;clear V X;have c0:=u.ag 0 (.int .u32 y.a.toNat) rfl;have c1:=u.ag 1 (.int .u32 y.b.toNat) rfl;have c2:=u.ag 2 (.int .u32 y.c.toNat) rfl;have c3:=u.ag 3 (.int .u32 y.d.toNat) rfl;have c4:=u.ag 4 (.int .u32 y.e.toNat) rfl;have c5:=u.ag 5 (.int .u32 y.f.toNat) rfl;have c6:=u.ag 6 (.int .u32 y.g.toNat) rfl;have c7:=u.ag 7 (.int .u32 y.h.toNat) rfl;have i0:(0:Int)<=(k:Int):=by omega
       have i1:(k:Int)<64:=by omega
       go_wp2_with fail
       go_quiet (fail)
       go_wp2_with fail;generalize ha:Act.mk _ _=a;have sz:a.tmps.size=174:=by rw[<-ha];rfl
       have ld:a.tmps[11]'(by omega)= .pointer (some ⟨bv,0,none⟩):=by subst ha;rfl
       have li:a.tmps[12]'(by omega)= .int .i64 k:=by subst ha;rfl
       have lm:a.tmps[13]'(by omega)= .int .u32 wt.toNat:=by subst ha;rfl
       have lw:a.tmps[17]'(by omega)= .int .u32 y.e.toNat:=by subst ha;rfl
       have mt:a.tmps[18]'(by omega)= .int .u32 y.f.toNat:=by subst ha;rfl
       have m4:a.tmps[19]'(by omega)= .int .u32 y.g.toNat:=by subst ha;rfl
       have HA:=h_ ha;clear ha;refine Free.ai 22 [(3, .ind (λx=> .slice (some ⟨x,0,none⟩) 3 3) (λx C=>ay C x [.int .i64 6, .int .i64 11, .int .i64 25] 3)),(4, .det (.int .u32 (kS y.e [6,11,25]).toNat))] (λC=>C.cell? ⟨bv,7,none⟩=some (.int .u32 y.h.toNat)/\C.cell? ⟨0,k,none⟩=some (.int .u32 kt.toNat)) (by kernel_rfl) (by kernel_rfl) ?_ ⟨c7,cK⟩ (λ_ _ h g=>⟨dJ h.1 g,dJ h.2 g⟩) ?_
       ·intro j mk r R;simp only[Free.find]at R
        repeat' split at R
        all_goals (first|cases R|skip)
        all_goals exact λx w w' h g=>h.below g h.lt
       ·simp only[eJ,dT];iterate 4 (first|(apply Free.aR rfl rfl;(intro w' ⟨hb1,hb2⟩ hA;refine Free.cq (by go_simp<;>rfl) ⟨Free.Grow.alloc _ _,w'.heap.size,rfl,ay.yQ _ _ _⟩))|(apply Free.ae rfl rfl;(intro w' ⟨hb1,hb2⟩ hA;clear hA;go_light;go_simp<;>rfl)))
        intro x1;apply Free.aC rfl rfl
        ·intro w' ⟨hb1,hb2⟩ hA;have E:=hA _ dH (by kernel_rfl);refine Free.au (by go_simp;exact⟨rfl,rfl⟩) ?_;refine(RG y.e x1 6 11 25 _ (by decide) (by decide) (by decide) ?_ ?_ ?_).mono ?_
         ·exact E.ag 0 _ rfl
         ·exact E.ag 1 _ rfl
         ·exact E.ag 2 _ rfl
         ·rintro e C ⟨rfl,rfl⟩;exact⟨_,rfl,Free.Grow.refl _,rfl⟩
        iterate 17 (apply Free.ae rfl rfl;(intro w' ⟨hb1,hb2⟩ hA;clear hA;go_light;go_simp<;>rfl))
        apply Free.ax;intro C _ hg _;have A:=sJ hg;clear hg;have B:=u.below A u.lt;have q1:=n.below A n.lt;have q2:=m.below A m.lt;have q3:Below w.heap.size w C:=o.trans (A.mono o.size);clear A c0 c1 c2 c4 c5 c6 c7 cK c3;have i9:=B.lt;have c0:=B.ag 0 (.int .u32 y.a.toNat) rfl;have c1:=B.ag 1 (.int .u32 y.b.toNat) rfl;have c2:=B.ag 2 (.int .u32 y.c.toNat) rfl;have c3:=B.ag 3 (.int .u32 y.d.toNat) rfl;have c4:=B.ag 4 (.int .u32 y.e.toNat) rfl;have c5:=B.ag 5 (.int .u32 y.f.toNat) rfl;have c6:=B.ag 6 (.int .u32 y.g.toNat) rfl;have c7:=B.ag 7 (.int .u32 y.h.toNat) rfl;have f0:=B.frozen 0;have f1:=B.frozen 1;have f2:=B.frozen 2;have f3:=B.frozen 3;have f4:=B.frozen 4;have f5:=B.frozen 5;have f6:=B.frozen 6;have f7:=B.frozen 7;simp only[fm,fo];obtain rfl:=HA.out;go_wp2_with fail;refine(RG y.a _ 2 13 22 _ (by decide) (by decide) (by decide) ?_ ?_ ?_).mono ?_
        ·exact(ay.yQ C _ _).ag 0 _ rfl
        ·exact(ay.yQ C _ _).ag 1 _ rfl
        ·exact(ay.yQ C _ _).ag 2 _ rfl
        rintro e w' ⟨rfl,rfl⟩
        go_wp2
        go_roundw
        case rel=>
         go_light;rw[O5,OB];exact FV q g7 HY.out f8.out EK.out EW.out B q1 q2 q3
        case measure=>simp[intOf];omega
      ·obtain rfl:k=64:=by omega
       clear q hk;obtain⟨y,Z⟩:=x_ (rounds K (mX 48 (dM s)) x 64)
       rw[<-Z]at u;have HY:=h_ Z;clear Z;have S:Hid (wr.heap[bv]? =some (.cells #[.int .u32 y.a.toNat, .int .u32 y.b.toNat, .int .u32 y.c.toNat, .int .u32 y.d.toNat, .int .u32 y.e.toNat, .int .u32 y.f.toNat, .int .u32 y.g.toNat, .int .u32 y.h.toNat] 292 (0,0))):=u;go_wp2_with (refine wpList_load_row rfl 292 _ rfl _ rfl 292 _ (0,0) _ S.out Tryz.underlying292 rfl (by kernel_rfl) ?_)
       clear S u;obtain⟨m5,rfl⟩:=x_ (wr:World)
       go_loopw [162] (λi wr=>Qd w x y i wr) (λi _=>8- (intOf i).toNat)
       case atStart=>exact⟨0,x.list,by omega,rfl,rfl,λj hj=>by rw[if_neg (by omega)];exact wM x j hj,n,m,o⟩
       case round=>
        clear n m o;obtain⟨k,l,hk,rfl,G,co,n,m,o⟩:=hrel;have D:=h_ G;have N:=h_ co;clear G co;by_cases q:k<8
        ·have J:=λwx=>QP (y.list.map W).toArray k (.int .u32 (y.list.getD k 0).toNat) (by
          rw[List.getElem?_toArray,mx,wM y k q];rfl) q wx
         have Y:∀wx:World,(Instr.index 292 (.agg #[.int .u32 y.a.toNat, .int .u32 y.b.toNat, .int .u32 y.c.toNat, .int .u32 y.d.toNat, .int .u32 y.e.toNat, .int .u32 y.f.toNat, .int .u32 y.g.toNat, .int .u32 y.h.toNat]) (.int .i64 k)).run Tryz.prog wx= .ok (.int .u32 (y.list.getD k 0).toNat) wx:=J;clear J;have hc:=n.ag k (.int .u32 (x.list.getD k 0).toNat) (by rw[mx,N.out k q,if_neg (by omega)];rfl);have R:=n.frozen k;obtain⟨xk,ex⟩:=x_ (x.list.getD k 0)
         obtain⟨yk,ey⟩:=x_ (y.list.getD k 0)
         rw[<-ex]at hc;rw[<-ey]at Y;have EX:=h_ ex;have EY:=h_ ey;clear ex ey;have i0:(0:Int)<=(k:Int):=by omega
         have i1:(k:Int)<8:=by omega
         go_wp2
         go_roundw
         case rel=>
          go_light;rw[add_mod,EX.out,EY.out];exact FW q D.out N.out n m o
         case measure=>simp[intOf];omega
        ·obtain rfl:k=8:=by omega
         clear q hk;have hL:=Tr D.out N.out;obtain⟨z,hz⟩:=x_ (x.add y)
         rw[<-hz]at hL;have HZ:Hid (z=yO K x s):=by rw[hz,HY.out];rfl
         rw[hL]at n;clear hL hz D N;have S:Hid (wr.heap[w.heap.size]? =some (.cells #[.int .u32 z.a.toNat, .int .u32 z.b.toNat, .int .u32 z.c.toNat, .int .u32 z.d.toNat, .int .u32 z.e.toNat, .int .u32 z.f.toNat, .int .u32 z.g.toNat, .int .u32 z.h.toNat] 292 (0,0))):=n;have c0:=m.ag 0 _ rfl;have c1:=m.ag 1 _ rfl;have c2:=m.ag 2 _ rfl;have c3:=m.ag 3 _ rfl;have c4:=m.ag 4 _ rfl;have c5:=m.ag 5 _ rfl;have c6:=m.ag 6 _ rfl;have c7:=m.ag 7 _ rfl;have f0:=m.frozen 0;have f1:=m.frozen 1;have f2:=m.frozen 2;have f3:=m.frozen 3;have f4:=m.frozen 4;have f5:=m.frozen 5;have f6:=m.frozen 6;have f7:=m.frozen 7;go_wp2_with (refine wpList_load_row rfl 292 _ rfl _ rfl 292 _ (0,0) _ S.out Tryz.underlying292 rfl (by kernel_rfl) ?_)
         have Q:∀i:Nat,w.heap.size<=(⟨w.heap.size+1,i,none⟩:Addr).block:=λi=>by simp
         refine bodyPost_ret (v:= .agg z.cells.toArray) (results_cell_row (fn:=Tryz.f201) (p:=4) (ty:=292) rfl _ _ (w.heap.size+1) 292 z.cells.toArray (0,0) _ rfl ((((((((m.set 0 _).set 1 _).set 2 _).set 3 _).set 4 _).set 5 _).set 6 _).set 7 _) Tryz.underlying292 rfl (by kernel_rfl)) rfl ⟨by rw[HZ.out], ?_⟩;exact(((((((o.setCell (Q _) _).setCell (Q _) _).setCell (Q _) _).setCell (Q _) _).setCell (Q _) _).setCell (Q _) _).setCell (Q _) _).setCell (Q _) _
end Go.Proofs.YtkmbmfengcdmoaaGreatDoor
namespace Go.Proofs.YtkmbmfengcdmoaaGreatDoor
open Go.RowKit Go.W32 Go.ay
def KE(m:Nat):List UInt8:=(List.range 8).map λj=>UInt8.ofNat (m / 256 ^ (7-j))
theorem rE(m:Nat):(KE m).length=8:=by simp[KE]
def Bf(e:ByteArray)(n:Nat):ByteArray:=e++⟨#[128]⟩++⟨(Lib.repeatL [0] ((119-e.size) % 64)).toArray⟩++⟨(KE (n*8)).toArray⟩

def Qg(w:World)(m:Nat)(i left:Value)(wr:World):Prop:=
 ∃(k:Nat) (l:List UInt8),k<=8/\i= .int .i64 (7- (k:Int))/\left= .int .u64 ((m / 256 ^ k:Nat):Int)/\l.length=8/\(∀j,j<8->8-k<=j->l[j]? =some (UInt8.ofNat (m / 256 ^ (7-j))))/\ay wr w.heap.size (l.map C8) 5/\Below w.heap.size w wr

theorem F7{w wr:World}{m k:Nat}{l:List UInt8}(r:k<8)(q:l.length=8)(h:∀j,j<8->8-k<=j->l[j]? =some (UInt8.ofNat (m / 256 ^ (7-j))))(f:ay wr w.heap.size (l.map C8) 5)(i:Below w.heap.size w wr)(a b c:Int)
  (g:a=7- ((k+1:Nat):Int)) (d:b=((m / 256 ^ (k+1):Nat):Int)) (n:c=(m / 256 ^ k:Nat) % 256):
  Qg w m (.int .i64 a) (.int .u64 b) (wr.setCell ⟨w.heap.size,7-k,none⟩ (.int .u8 c)):=by
 subst g;subst d;subst n;refine⟨k+1,l.set (7-k) (UInt8.ofNat (m / 256 ^ k)),by omega,rfl,rfl,by simp[q], ?_, ?_,i.setCell (aL _) _⟩
 ·intro j o p;by_cases e:j=7-k
  ·subst e;rw[Sk (by omega),show 7- (7-k)=k by omega]
  ·rw[List.getElem?_set_ne (by omega)];exact h j o (by omega)
 ·rw[Py]
  have:C8 (UInt8.ofNat (m / 256 ^ k))= .int .u8 (((m / 256 ^ k:Nat):Int) % 256):=by unfold C8;congr 1
  rw[this];exact f.set _ _
theorem Oi{m:Nat}{l:List UInt8}(b:l.length=8)(h:∀j,j<8->8-8<=j->l[j]? =some (UInt8.ofNat (m / 256 ^ (7-j)))):l=KE m:=by
 apply rC;intro i;by_cases a:i<8
 ·rw[h i a (by omega)];simp[KE,a]
 ·rw[pz (by omega),pz (by rw[rE];omega)]

set_option maxHeartbeats 1000000 in
theorem Bg(e:ByteArray)(n:Nat)(w:World)(Z:e.size<64)(hn:n<281474976710656):
  Calls Tryz.prog 202 #[.string e, .int .i64 n] w λr w'=>r= .returned (.string (Bf e n))/\Below w.heap.size w w':=by
 have N:∀w:World,(Instr.makeSlice 117 (.int .i64 8) (.int .i64 8)).run Tryz.prog w= .ok (.slice (some ⟨w.heap.size,0,none⟩) 8 8) (w.alloc (.cells #[.int .u8 0, .int .u8 0, .int .u8 0, .int .u8 0, .int .u8 0, .int .u8 0, .int .u8 0, .int .u8 0] 5)):=λ_=>by kernel_rfl
 go_enter Tryz.func202,Tryz.ntmps202;go_wp2_with fail
 go_loopw [7,8] (λi l wr=>Qg w (n*8) i l wr) (λi _ _=>(1+intOf i).toNat)
 case atStart=>
  refine⟨0,List.replicate 8 0,by omega,rfl,by simp,by simp,λj W X=>by omega,ay.made rfl (by simp[C8]),(Below.refl _ _).alloc (aL _) _⟩
 case round=>
  obtain⟨k,l,M,rfl,rfl,G,f,c,b⟩:=hrel;have p:=h_ G;have HS:=h_ f;clear G f;by_cases o:k<8
  ·obtain⟨y,C⟩:∃y,l[7-k]? =some y:=⟨l[7-k]'(by have:=p.out;omega),by simp⟩
   have Y:=c.ag (7-k) (.int .u8 y.toNat) (by rw[mx,C];rfl);have V:=h_ C;clear C;have s:=c.frozen (7-k);have hm:n*8 / 256 ^ k<=n*8:=Nat.div_le_self _ _;have I:Hid (n*8 / 256 ^ (k+1)=n*8 / 256 ^ k / 256):=by show _=_;rw[GL,Nat.div_div_eq_div_mul]
   obtain⟨m,u⟩:=x_ (n*8 / 256 ^ k)
   rw[<-u]at hm⊢;have D:=h_ u;clear u;have i0:(0:Int)<=7- (k:Int):=by omega
   have i1:(7- (k:Int))<8:=by omega
   have i2:(7- (k:Int)).toNat=7-k:=by omega
   have i3:(k:Int)<=7:=by omega
   go_wp2
   go_roundw
   case rel=>
    go_light;exact F7 o p.out HS.out c b _ _ _ (by omega) (by rw[I.out, <-D.out];omega) (by rw[<-D.out])
   case measure=>simp[intOf];omega
  ·obtain rfl:k=8:=by omega
   clear o M;have E:=Oi p.out HS.out;rw[E]at c;clear E p HS;go_wp2_with fail;have hz:(((119-e.size) % 64:Nat):Int)=(119- (e.size:Int)) % 64:=by omega
   obtain⟨z,v⟩:=x_ ((119-e.size) % 64)
   have O:z<64:=by omega
   rw[<-v]at hz;generalize ha:Act.mk _ _=a;have U:a.tmps.size=36:=by rw[<-ha];rfl
   have R:a.tmps[0]'(by omega)= .string e:=by subst ha;rfl
   have S:a.tmps[5]'(by omega)= .int .i64 z:=by subst ha;rw[hz];rfl
   have T:a.tmps[6]'(by omega)= .slice (some ⟨w.heap.size,0,none⟩) 8 8:=by subst ha;rfl
   have H:=h_ ha;have J:=h_ v;clear ha hz v;have r1:(Lib.repeatL [0] z).length=z:=by rw[Lib.repeatL_length];simp
   have r2:=rE (n*8);refine Free.ai 9 [(3, .det (.string ⟨(Lib.repeatL [0] z).toArray⟩))] (λt=>ay t w.heap.size ((KE (n*8)).map C8) 5) (by kernel_rfl) (by kernel_rfl) ?_ c (λ_ _ h g=>h.below g h.lt) ?_
   ·intro j mk r s;simp only[Free.find]at s
    repeat' split at s
    all_goals (first|cases s|skip)
   ·simp only[eJ,dT];iterate 9 (first|(apply Free.aC rfl rfl;(intro w' x q;refine Free.au (by go_simp;exact⟨rfl,rfl⟩) ?_;refine(Tryz.strings_Repeat ⟨#[0]⟩ z _ (by omega) (by show 1*z<=_;omega)).mono ?_;rintro e t ⟨rfl,A⟩;exact⟨_,rfl,A,rfl⟩))|(apply Free.ae rfl rfl;(intro w' x q;clear q;go_light;go_simp<;>(first|rfl|(rw[if_neg (by omega)]))))|(apply Free.ae rfl rfl;(intro w' x q;clear q;go_light;have B:=sq (P:=Tryz.prog) (cap:=8) (KE (n*8)) Tryz.underlying117 Tryz.underlying5 Tryz.underlying9 x (λj L=>by rw[mx,eH L];rfl);rw[rE]at B;go_simp<;>rfl)))
    apply Free.ax;intro t _ F _;have d:=qh F;have Q:Below w.heap.size w t:=b.trans (d.mono b.size);clear F d R S T U;simp only[fm,fo];obtain rfl:=H.out
    go_wp2
    go_ret;have K:Bf e n=e++⟨#[128]⟩++⟨(Lib.repeatL [0] z).toArray⟩++⟨(KE (n*8)).toArray⟩:=by rw[Bf, <-J.out]
    exact⟨by rw[K];rfl,Q⟩
end Go.Proofs.YtkmbmfengcdmoaaGreatDoor
