/- The walk of digest.padded: the end of a text with what follows it, for an end shorter than a block and a length below 2^48. -/
import Derived.Test.YtkmbmfengcdmoaaGreatDoorZAB
import Derived.Test.YtkmbmfengcdmoaaGreatDoorRows
import Derived.WalkSpells
import Derived.WalkLawsBesides
import Derived.Deep.QuietTactic
import Derived.BigQuiet
import Derived.StillTailTactics
import Derived.Outline
import Derived.Deep.Light
import Derived.Test.YtkmbmfengcdmoaaGreatDoorZAA
set_option maxRecDepth 100000
set_option linter.all false
namespace Go.Proofs.YtkmbmfengcdmoaaGreatDoor
open Go.RowKit Go.W32 Go.ay

theorem QO(cs:Array Value)(k:Nat)(v:Value)(hv:cs[k]? =some v)(hk:k<64)(w:World):(Instr.index 331 (.agg cs) (.int .i64 k)).run Tryz.prog w= .ok v w:=by
 have h1:(0:Int)<=(k:Int):=by omega
 have h2:(k:Int)<64:=by omega
 have h3:(k:Int).toNat=k:=by omega
 unfold Instr.index part;go_simp
theorem QP(cs:Array Value)(k:Nat)(v:Value)(hv:cs[k]? =some v)(hk:k<8)(w:World):(Instr.index 292 (.agg cs) (.int .i64 k)).run Tryz.prog w= .ok v w:=by
 have h1:(0:Int)<=(k:Int):=by omega
 have h2:(k:Int)<8:=by omega
 have h3:(k:Int).toNat=k:=by omega
 unfold Instr.index part;go_simp

theorem OO:(Tryz.prog.info? 331).map (·.size)=some 64:=by kernel_rfl
def Qc(w:World)(bv:Nat)(K:List UInt32)(s:ByteArray)(x:S8)(i:Value)(wr:World):Prop:=
 ∃k:Nat,k<=64/\i= .int .i64 k/\ay wr bv (rounds K (mX 48 (dM s)) x k).cells 292/\ay wr w.heap.size x.cells 292/\ay wr (w.heap.size+1) (List.replicate 8 (W 0)) 292/\Below (w.heap.size) w wr
theorem Q0:IntKind.u32.max=4294967295:=by decide
theorem Hv(y:S8):bits BinOp.xor IntKind.u32 (bits BinOp.and IntKind.u32 ↑y.e.toNat ↑y.f.toNat) (bits BinOp.and IntKind.u32 (bits BinOp.xor IntKind.u32 IntKind.u32.max ↑y.e.toNat) ↑y.g.toNat)=(((y.e&&&y.f) ^^^ (~~~y.e&&&y.g)).toNat:Int):=by rw[Q0,Rn,uI,uI,vR]
theorem Ma(y:S8):bits BinOp.xor IntKind.u32 (bits BinOp.xor IntKind.u32 (bits BinOp.and IntKind.u32 ↑y.a.toNat ↑y.b.toNat) (bits BinOp.and IntKind.u32 ↑y.a.toNat ↑y.c.toNat)) (bits BinOp.and IntKind.u32 ↑y.b.toNat ↑y.c.toNat)=((((y.a&&&y.b) ^^^ (y.a&&&y.c)) ^^^ (y.b&&&y.c)).toNat:Int):=by rw[uI,uI,uI,vR,vR]
theorem O5(y:S8)(kt wt:UInt32):((y.h.toNat:Int)+ ↑(kS y.e [6,11,25]).toNat+bits BinOp.xor IntKind.u32 (bits BinOp.and IntKind.u32 ↑y.e.toNat ↑y.f.toNat) (bits BinOp.and IntKind.u32 (bits BinOp.xor IntKind.u32 IntKind.u32.max ↑y.e.toNat) ↑y.g.toNat)+ ↑kt.toNat+ ↑wt.toNat+
  (↑(kS y.a [2,13,22]).toNat+bits BinOp.xor IntKind.u32 (bits BinOp.xor IntKind.u32 (bits BinOp.and IntKind.u32 ↑y.a.toNat ↑y.b.toNat) (bits BinOp.and IntKind.u32 ↑y.a.toNat ↑y.c.toNat)) (bits BinOp.and IntKind.u32 ↑y.b.toNat ↑y.c.toNat))) % 4294967296=((tP y kt wt+tQ y).toNat:Int):=by
 rw[Hv,Ma, <-add_mod];unfold tP tQ;rw[<-add_mod, <-add_mod, <-add_mod, <-add_mod, <-add_mod];simp only[Int.emod_add_emod,Int.add_emod_emod]
theorem OB(y:S8)(kt wt:UInt32):((y.d.toNat:Int)+(↑y.h.toNat+ ↑(kS y.e [6,11,25]).toNat+bits BinOp.xor IntKind.u32 (bits BinOp.and IntKind.u32 ↑y.e.toNat ↑y.f.toNat) (bits BinOp.and IntKind.u32 (bits BinOp.xor IntKind.u32 IntKind.u32.max ↑y.e.toNat) ↑y.g.toNat)+ ↑kt.toNat+ ↑wt.toNat)) % 4294967296=((y.d+tP y kt wt).toNat:Int):=by rw[Hv, <-add_mod];unfold tP;rw[<-add_mod, <-add_mod, <-add_mod, <-add_mod];simp only[Int.emod_add_emod,Int.add_emod_emod]
theorem FV{w:World}{bv:Nat}{K ws:List UInt32}{s:ByteArray}{x y:S8}{k:Nat}{w2:World}{kt wt:UInt32}{o:Obj}(hlt:k<64)(hv:w.heap.size+1+1<bv)(hy:y=rounds K (mX 48 (dM s)) x k)(hws:ws=mX 48 (dM s))(ek:kt=K.getD k 0)(ew:wt=ws.getD k 0)
  (q0:ay w2 bv y.cells 292) (q1:ay w2 w.heap.size x.cells 292) (q2:ay w2 (w.heap.size+1) (List.replicate 8 (W 0)) 292) (q3:Below w.heap.size w w2):
  Qc w bv K s x (.int .i64 (↑k+1)) (((((((((w2.setCell ⟨bv,0,none⟩ (.int .u32 (tP y kt wt+tQ y).toNat)).setCell ⟨bv,1,none⟩ (.int .u32 y.a.toNat)).setCell ⟨bv,2,none⟩ (.int .u32 y.b.toNat)).setCell ⟨bv,3,none⟩ (.int .u32 y.c.toNat)).setCell ⟨bv,4,none⟩ (.int .u32 (y.d+tP y kt wt).toNat)).setCell ⟨bv,5,none⟩ (.int .u32 y.e.toNat)).setCell ⟨bv,6,none⟩ (.int .u32 y.f.toNat)).setCell ⟨bv,7,none⟩ (.int .u32 y.g.toNat)).alloc o):=by
 have e:rounds K (mX 48 (dM s)) x (k+1)=round y kt wt:=by rw[rounds, <-hy, <-hws, <-ek, <-ew]
 have ne:∀(b:Nat),b<=w.heap.size+1->∀i:Nat,(⟨bv,i,none⟩:Addr).block≠b:=λb hb i=>by simp;omega
 refine⟨k+1,by omega,by go_num, ?_, ?_, ?_, ?_⟩
 ·rw[e];exact((((((((q0.set 0 _).set 1 _).set 2 _).set 3 _).set 4 _).set 5 _).set 6 _).set 7 _).alloc _
 ·exact((((((((q1.cL (ne _ (by omega) _) _).cL (ne _ (by omega) _) _).cL (ne _ (by omega) _) _).cL (ne _ (by omega) _) _).cL (ne _ (by omega) _) _).cL (ne _ (by omega) _) _).cL (ne _ (by omega) _) _).cL (ne _ (by omega) _) _).alloc _
 ·exact((((((((q2.cL (ne _ (by omega) _) _).cL (ne _ (by omega) _) _).cL (ne _ (by omega) _) _).cL (ne _ (by omega) _) _).cL (ne _ (by omega) _) _).cL (ne _ (by omega) _) _).cL (ne _ (by omega) _) _).cL (ne _ (by omega) _) _).alloc _
 ·have hb:∀i:Nat,w.heap.size<=(⟨bv,i,none⟩:Addr).block:=λi=>by simp;omega
  exact((((((((q3.setCell (hb _) _).setCell (hb _) _).setCell (hb _) _).setCell (hb _) _).setCell (hb _) _).setCell (hb _) _).setCell (hb _) _).setCell (hb _) _).alloc (by simp[World.setCell];exact q3.size) _

def S8.list(x:S8):List UInt32:= [x.a,x.b,x.c,x.d,x.e,x.f,x.g,x.h]
def Qd(w:World)(x y:S8)(i:Value)(wr:World):Prop:=
 ∃(k:Nat) (l:List UInt32),k<=8/\i= .int .i64 k/\l.length=8/\(∀j,j<8->l[j]? =some (if j<k then x.list.getD j 0+y.list.getD j 0 else x.list.getD j 0))/\ay wr w.heap.size (l.map W) 292/\ay wr (w.heap.size+1) (List.replicate 8 (W 0)) 292/\Below w.heap.size w wr
theorem Tr{l:List UInt32}{x y:S8}(hl:l.length=8)(h:∀j,j<8->l[j]? =some (if j<8 then x.list.getD j 0+y.list.getD j 0 else x.list.getD j 0)):l=(x.add y).list:=by
 apply rC;intro i;by_cases hi:i<8
 ·rw[h i hi,if_pos hi]
  match i,hi with
  |0,_|1,_|2,_|3,_|4,_|5,_|6,_|7,_=>rfl
 ·rw[pz (by omega),pz (by simp[S8.list];omega)]
theorem wM(x:S8)(k:Nat)(h:k<8):x.list[k]? =some (x.list.getD k 0):=by rw[BX,eH (by simpa[S8.list]using h)];rfl
theorem FW{w wr:World}{x y:S8}{k:Nat}{l:List UInt32}(hlt:k<8)(hl:l.length=8)(h:∀j,j<8->l[j]? =some (if j<k then x.list.getD j 0+y.list.getD j 0 else x.list.getD j 0))
  (q0:ay wr w.heap.size (l.map W) 292) (q1:ay wr (w.heap.size+1) (List.replicate 8 (W 0)) 292) (q3:Below w.heap.size w wr):
  Qd w x y (.int .i64 (↑k+1)) (wr.setCell ⟨w.heap.size,k,none⟩ (.int .u32 (x.list.getD k 0+y.list.getD k 0).toNat)):=by
 refine⟨k+1,l.set k (x.list.getD k 0+y.list.getD k 0),by omega,by go_num,by simp[hl], ?_, ?_,q1.cL (by simp) _,q3.setCell (aL _) _⟩
 ·intro j hj;by_cases e:j=k
  ·subst e;rw[Sk (by omega),if_pos (by omega)]
  ·rw[List.getElem?_set_ne (by omega),h j hj];by_cases hjk:j<k
   ·rw[if_pos hjk,if_pos (by omega)]
   ·rw[if_neg hjk,if_neg (by omega)]
 ·rw[Py];exact q0.set k _
attribute [local go_sem] TI TH TP

set_option maxHeartbeats 4000000 in
theorem vm(x:S8)(K:List UInt32)(s:ByteArray)(hs:s.size=64)(w:World)(hK:∀t,t<64->w.cell? ⟨0,t,none⟩=some (.int .u32 (K.getD t 0).toNat)):
  Calls Tryz.prog 201 #[.agg #[.int .u32 x.a.toNat, .int .u32 x.b.toNat, .int .u32 x.c.toNat, .int .u32 x.d.toNat, .int .u32 x.e.toNat, .int .u32 x.f.toNat, .int .u32 x.g.toNat, .int .u32 x.h.toNat], .string s] w λe w'=>e= .returned (.agg (yO K x s).cells.toArray)/\Below w.heap.size w w':=by
 have HS:=h_ hs;have HK:=h_ hK;have hs1:s.size<=64:=by omega
 have hs2:64<=s.size:=by omega
 clear hs hK;go_enter Tryz.func201,Tryz.ntmps201;go_wp2_with fail
 go_loopw [24] (λi wr=>SH w s x i wr) (λi _=>16- (intOf i).toNat)
 case atStart=>
  refine⟨0,List.replicate 64 0,by omega,rfl,by simp,by omega, ?_, ?_, ?_, ?_⟩
  ·exact ay.made (by simp) (by simp[W])
  ·exact((ay.made rfl (by simp[W,S8.cells])).alloc _).alloc _
  ·exact(ay.made (by simp) (by simp[W])).alloc _
  ·exact(((Below.refl _ _).alloc (aL _) _).alloc (by simp) _).alloc (by simp;omega) _
 case round=>
  obtain⟨k,ws,hk,rfl,hl,hws,hB,hB0,hB1,hbl⟩:=hrel;have HL:=h_ hl;have HW:=h_ hws;clear hl hws;by_cases hlt:k<16
  ·as_aux_lemma=>
   have hfz:=hB.frozen k;obtain⟨y,hx⟩:∃x,ws[k]? =some x:=⟨ws[k]'(by have:=HL.out;omega),by simp⟩
   have hcell:=hB.ag k (.int .u32 y.toNat) (by simp[hx,W]);have HX:=h_ hx;clear hx;have i0:(0:Int)<=(k:Int):=by omega
   have i1:(k:Int)<64:=by omega
   go_wp2_with fail;have hsz:(s.extract (4*k) (4*k+4)).size=4:=by simp;omega
   go_still_tail 20,(by kernel_rfl)
   change wpList _ _ _ _ _ wr.drew
   go_wp2
   go_roundw
   case rel=>
    rw[Oj s HS.out k hlt hsz];refine⟨k+1,ws.set k (be s k),by omega,by go_num,by simp[HL.out], ?_, ?_, ?_, ?_, ?_⟩
    ·exact JY HW.out (by rw[HL.out];omega)
    ·rw[Py];exact(hB.set k _).drew
    ·exact(hB0.cL (by simp;omega) _).drew
    ·exact(hB1.cL (by simp) _).drew
    ·exact(hbl.setCell (by simp;omega) _).drew
   case measure=>simp[intOf];omega
  ·obtain rfl:k=16:=by omega
   clear hlt hk;have H16:=h_ (AE HL.out HW.out);clear HW;go_wp2_with fail;obtain⟨wo,rfl⟩:=x_ (wr:World)
   go_loopw [8] (λi wr=>Qb w s x i wr) (λi _=>64- (intOf i).toNat)
   case atStart=>exact⟨16,ws,by omega,by omega,rfl,HL.out,H16.out,hB,hB0,hB1,hbl⟩
   case round=>
    clear hB hB0 hB1 hbl HL H16;clear ws;obtain⟨k,ws,hk1,hk2,rfl,hl,hws,hB,hB0,hB1,hbl⟩:=hrel;have HL:=h_ hl;have HW:=h_ hws;clear hl hws;by_cases hlt:k<64
    ·have hlen:(mX (k-16) (dM s)).length=k:=by rw[Ir,yB];omega
     obtain⟨l,hl⟩:=x_ (mX (k-16) (dM s))
     rw[<-hl]at hlen;have HLL:=h_ hlen;have HE:=h_ hl;have HT:Hid (ws.take k=l):=by rw[hl];exact HW.out
     clear hl hlen HW;obtain⟨x15,e15⟩:=x_ (l.getD (k-15) 0)
     obtain⟨x16,e16⟩:=x_ (l.getD (k-16) 0)
     obtain⟨x7,e7⟩:=x_ (l.getD (k-7) 0)
     obtain⟨x2,e2⟩:=x_ (l.getD (k-2) 0)
     obtain⟨y,ey⟩:∃y,ws[k]? =some y:=⟨ws[k]'(by have:=HL.out;omega),by simp⟩
     have c15:=hB.ag (k-15) (.int .u32 x15.toNat) (by rw[mx,mP HT.out HLL.out (by omega), <-e15];rfl);have c16:=hB.ag (k-16) (.int .u32 x16.toNat) (by rw[mx,mP HT.out HLL.out (by omega), <-e16];rfl);have c7:=hB.ag (k-7) (.int .u32 x7.toNat) (by rw[mx,mP HT.out HLL.out (by omega), <-e7];rfl);have c2:=hB.ag (k-2) (.int .u32 x2.toNat) (by rw[mx,mP HT.out HLL.out (by omega), <-e2];rfl);have E15:=h_ e15;have E16:=h_ e16;have E7:=h_ e7;have E2:=h_ e2;have EY:=h_ ey;clear e15 e16 e7 e2 ey;have i0:(0:Int)<=(k:Int):=by omega
     have i1:(k:Int)<64:=by omega
     go_wp2_with fail
     go_quiet (fail)
     go_wp2_with fail;have b1:(16:Int)<=(k:Int):=by omega
     have b2:(k:Int)-16<64:=by omega
     have b4:(7:Int)<=(k:Int):=by omega
     have b5:(k:Int)-7<64:=by omega
     have b3:((k:Int)-16).toNat=k-16:=by omega
     have b6:((k:Int)-7).toNat=k-7:=by omega
     have b7:IntKind.i64.wrap ((k:Int)-16)=(k:Int)-16:=IntWalk.i64_in _ (by omega);have b8:IntKind.i64.wrap ((k:Int)-7)=(k:Int)-7:=IntWalk.i64_in _ (by omega);generalize ha:Act.mk _ _=a;have sz:a.tmps.size=174:=by rw[<-ha];rfl
     have s5:a.tmps[5]'(by omega)= .pointer (some ⟨w.heap.size+1+1,0,none⟩):=by subst ha;rfl
     have s8:a.tmps[8]'(by omega)= .int .i64 k:=by subst ha;rfl
     have s9:a.tmps[9]'(by omega)= .int .u32 x15.toNat:=by subst ha;rfl
     have s10:a.tmps[10]'(by omega)= .int .u32 x2.toNat:=by subst ha;rfl
     have HA:=h_ ha;clear ha;refine Free.ai 25 [(6, .ind (λx=> .slice (some ⟨x,0,none⟩) 2 2) (λx w2=>ay w2 x [.int .i64 7, .int .i64 18] 3)),(7, .det (.int .u32 (kS x15 [7,18]).toNat)),(18, .ind (λx=> .slice (some ⟨x,0,none⟩) 2 2) (λx w2=>ay w2 x [.int .i64 17, .int .i64 19] 3)),(19, .det (.int .u32 (kS x2 [17,19]).toNat))] (λw2=>w2.cell? ⟨w.heap.size+1+1,k-16,none⟩=some (.int .u32 x16.toNat)/\w2.cell? ⟨w.heap.size+1+1,k-7,none⟩=some (.int .u32 x7.toNat)) (by kernel_rfl) (by kernel_rfl) ?_ ⟨c16,c7⟩ (λ_ _ h g=>⟨dJ h.1 g,dJ h.2 g⟩) ?_
     ·intro j mk r hf;simp only[Free.find]at hf
      repeat' split at hf
      all_goals (first|cases hf|skip)
      all_goals exact λx w w' h g=>h.below g h.lt
     ·simp only[eJ,dT];iterate 7 (first|(apply Free.aR rfl rfl;(intro w' ⟨hb1,hb2⟩ hA;refine Free.cq (by go_simp<;>rfl) ⟨Free.Grow.alloc _ _,w'.heap.size,rfl,ay.yQ _ _ _⟩))|(apply Free.ae rfl rfl;(intro w' ⟨hb1,hb2⟩ hA;clear hA;go_light;go_simp<;>rfl)))
      intro x1;apply Free.aC rfl rfl
      ·intro w' ⟨hb1,hb2⟩ hA;have hA6:=hA _ dH (by kernel_rfl);refine Free.au (by go_simp;exact⟨rfl,rfl⟩) ?_;refine(RF x15 x1 7 18 _ (by decide) (by decide) ?_ ?_).mono ?_
       ·exact hA6.ag 0 _ rfl
       ·exact hA6.ag 1 _ rfl
       ·rintro e w2 ⟨rfl,rfl⟩;exact⟨_,rfl,Free.Grow.refl _,rfl⟩
      iterate 11 (first|(apply Free.aR rfl rfl;(intro w' ⟨hb1,hb2⟩ hA;refine Free.cq (by go_simp<;>rfl) ⟨Free.Grow.alloc _ _,w'.heap.size,rfl,ay.yQ _ _ _⟩))|(apply Free.ae rfl rfl;(intro w' ⟨hb1,hb2⟩ hA;clear hA;go_light;go_simp<;>rfl)))
      intro x3;apply Free.aC rfl rfl
      ·intro w' ⟨hb1,hb2⟩ hA;have hA6:=hA _ dH (by kernel_rfl);refine Free.au (by go_simp;exact⟨rfl,rfl⟩) ?_;refine(RF x2 x3 17 19 _ (by decide) (by decide) ?_ ?_).mono ?_
       ·exact hA6.ag 0 _ rfl
       ·exact hA6.ag 1 _ rfl
       ·rintro e w2 ⟨rfl,rfl⟩;exact⟨_,rfl,Free.Grow.refl _,rfl⟩
      iterate 5 (apply Free.ae rfl rfl;(intro w' ⟨hb1,hb2⟩ hA;clear hA;go_light;go_simp<;>rfl))
      apply Free.ax;intro w2 _ hg _;have hg':=sJ hg;clear hg;have q0:=hB.below hg' hB.lt;have q1:=hB0.below hg' hB0.lt;have q2:=hB1.below hg' hB1.lt;have q3:Below w.heap.size w w2:=hbl.trans (hg'.mono hbl.size);have c0':=q0.ag k (.int .u32 y.toNat) (by rw[mx,EY.out];rfl);have f0':=q0.frozen k;clear hg';clear b3 b6 b7 b8;simp only[fm,fo];obtain rfl:=HA.out
      go_wp2
      go_roundw
      case rel=>
       go_light;rw[Jj];exact FU hk1 hlt HL.out HLL.out HE.out HT.out q0 q1 q2 q3 _ (by rw[E15.out,E16.out,E7.out,E2.out])
      case measure=>simp[intOf];omega
    ·obtain rfl:k=64:=by omega
     clear hlt hk1 hk2;have HWS:Hid (ws=mX 48 (dM s)):=by have:=HW.out;rwa[np (by rw[HL.out];omega)]at this
     clear HW;have G0:Hid (wr.heap[w.heap.size]? =some (.cells #[.int .u32 x.a.toNat, .int .u32 x.b.toNat, .int .u32 x.c.toNat, .int .u32 x.d.toNat, .int .u32 x.e.toNat, .int .u32 x.f.toNat, .int .u32 x.g.toNat, .int .u32 x.h.toNat] 292 (0,0))):=hB0;have i64:(Tryz.prog.info? 331).map (·.size)=some (ws.map W).toArray.size:=by
      have:(ws.map W).toArray.size=64:=by simp[HL.out]
      rw[this];exact OO
     have I64:=h_ i64;clear i64;go_wp2_with (first|(refine wpList_load_row rfl 292 _ rfl _ rfl 292 _ (0,0) _ G0.out Tryz.underlying292 rfl (by kernel_rfl) ?_)|(refine wpList_load_row rfl 331 _ rfl _ rfl 331 _ (0,0) _ (hB.alloc _) Tryz.underlying331 rfl I64.out ?_))
     obtain⟨wo2,rfl⟩:=x_ (wr:World)
     obtain⟨bv,hbv⟩:=x_ wo2.heap.size
     have HBV:=h_ hbv;have hv1:w.heap.size+1+1<bv:=by rw[hbv];exact hB.lt
     rw[<-hbv]
     go_loopw [94] (λi wr=>Qc w bv K s x i wr) (λi _=>64- (intOf i).toNat)
     case atStart=>
      exact⟨0,by omega,rfl,ay.made hbv rfl,hB0.alloc _,hB1.alloc _,hbl.alloc hbl.size _⟩
     case round=>
      clear hbv HBV hB hB0 hB1 hbl G0 I64;obtain⟨k,hk,rfl,hB,hB0,hB1,hbl⟩:=hrel;by_cases hlt:k<64
      ·obtain⟨y,hy⟩:=x_ (rounds K (mX 48 (dM s)) x k)
       rw[<-hy]at hB;have HY:=h_ hy;clear hy;obtain⟨kt,ekt⟩:=x_ (K.getD k 0)
       obtain⟨wt,ewt⟩:=x_ (ws.getD k 0)
       have cK:wr.cell? ⟨0,k,none⟩=some (.int .u32 kt.toNat):=by have h:=HK.out k hlt;rw[<-ekt]at h;rw[hbl.cell (p:=⟨0,k,none⟩) (World.block_lt_of_cell? w _ h)];exact h
       have hidx:=λwx=>QO (ws.map W).toArray k (.int .u32 wt.toNat) (by
        rw[ewt,List.getElem?_toArray,mx,BX,eH (by rw[HL.out];exact hlt)];rfl) hlt wx
       have EK:=h_ ekt;have EW:=h_ ewt;clear ekt ewt;have c0:=hB.ag 0 (.int .u32 y.a.toNat) rfl;have c1:=hB.ag 1 (.int .u32 y.b.toNat) rfl;have c2:=hB.ag 2 (.int .u32 y.c.toNat) rfl;have c3:=hB.ag 3 (.int .u32 y.d.toNat) rfl;have c4:=hB.ag 4 (.int .u32 y.e.toNat) rfl;have c5:=hB.ag 5 (.int .u32 y.f.toNat) rfl;have c6:=hB.ag 6 (.int .u32 y.g.toNat) rfl;have c7:=hB.ag 7 (.int .u32 y.h.toNat) rfl;have i0:(0:Int)<=(k:Int):=by omega
       have i1:(k:Int)<64:=by omega
       go_wp2_with fail
       go_quiet (fail)
       go_wp2_with fail;generalize ha:Act.mk _ _=a;have sz:a.tmps.size=174:=by rw[<-ha];rfl
       have s11:a.tmps[11]'(by omega)= .pointer (some ⟨bv,0,none⟩):=by subst ha;rfl
       have s12:a.tmps[12]'(by omega)= .int .i64 k:=by subst ha;rfl
       have s13:a.tmps[13]'(by omega)= .int .u32 wt.toNat:=by subst ha;rfl
       have s17:a.tmps[17]'(by omega)= .int .u32 y.e.toNat:=by subst ha;rfl
       have s18:a.tmps[18]'(by omega)= .int .u32 y.f.toNat:=by subst ha;rfl
       have s19:a.tmps[19]'(by omega)= .int .u32 y.g.toNat:=by subst ha;rfl
       have HA:=h_ ha;clear ha;refine Free.ai 22 [(3, .ind (λx=> .slice (some ⟨x,0,none⟩) 3 3) (λx w2=>ay w2 x [.int .i64 6, .int .i64 11, .int .i64 25] 3)),(4, .det (.int .u32 (kS y.e [6,11,25]).toNat))] (λw2=>w2.cell? ⟨bv,7,none⟩=some (.int .u32 y.h.toNat)/\w2.cell? ⟨0,k,none⟩=some (.int .u32 kt.toNat)) (by kernel_rfl) (by kernel_rfl) ?_ ⟨c7,cK⟩ (λ_ _ h g=>⟨dJ h.1 g,dJ h.2 g⟩) ?_
       ·intro j mk r hf;simp only[Free.find]at hf
        repeat' split at hf
        all_goals (first|cases hf|skip)
        all_goals exact λx w w' h g=>h.below g h.lt
       ·simp only[eJ,dT];iterate 4 (first|(apply Free.aR rfl rfl;(intro w' ⟨hb1,hb2⟩ hA;refine Free.cq (by go_simp<;>rfl) ⟨Free.Grow.alloc _ _,w'.heap.size,rfl,ay.yQ _ _ _⟩))|(apply Free.ae rfl rfl;(intro w' ⟨hb1,hb2⟩ hA;clear hA;go_light;go_simp<;>rfl)))
        intro x1;apply Free.aC rfl rfl
        ·intro w' ⟨hb1,hb2⟩ hA;have hA6:=hA _ dH (by kernel_rfl);refine Free.au (by go_simp;exact⟨rfl,rfl⟩) ?_;refine(RG y.e x1 6 11 25 _ (by decide) (by decide) (by decide) ?_ ?_ ?_).mono ?_
         ·exact hA6.ag 0 _ rfl
         ·exact hA6.ag 1 _ rfl
         ·exact hA6.ag 2 _ rfl
         ·rintro e w2 ⟨rfl,rfl⟩;exact⟨_,rfl,Free.Grow.refl _,rfl⟩
        iterate 17 (apply Free.ae rfl rfl;(intro w' ⟨hb1,hb2⟩ hA;clear hA;go_light;go_simp<;>rfl))
        apply Free.ax;intro w2 _ hg _;have hg':=sJ hg;clear hg;have q0:=hB.below hg' hB.lt;have q1:=hB0.below hg' hB0.lt;have q2:=hB1.below hg' hB1.lt;have q3:Below w.heap.size w w2:=hbl.trans (hg'.mono hbl.size);clear hg' c0 c1 c2 c4 c5 c6 c7 cK c3;have hlw:=q0.lt;have c0:=q0.ag 0 (.int .u32 y.a.toNat) rfl;have c1:=q0.ag 1 (.int .u32 y.b.toNat) rfl;have c2:=q0.ag 2 (.int .u32 y.c.toNat) rfl;have c3:=q0.ag 3 (.int .u32 y.d.toNat) rfl;have c4:=q0.ag 4 (.int .u32 y.e.toNat) rfl;have c5:=q0.ag 5 (.int .u32 y.f.toNat) rfl;have c6:=q0.ag 6 (.int .u32 y.g.toNat) rfl;have c7:=q0.ag 7 (.int .u32 y.h.toNat) rfl;have f0:=q0.frozen 0;have f1:=q0.frozen 1;have f2:=q0.frozen 2;have f3:=q0.frozen 3;have f4:=q0.frozen 4;have f5:=q0.frozen 5;have f6:=q0.frozen 6;have f7:=q0.frozen 7;simp only[fm,fo];obtain rfl:=HA.out;go_wp2_with fail;refine(RG y.a _ 2 13 22 _ (by decide) (by decide) (by decide) ?_ ?_ ?_).mono ?_
        ·exact(ay.yQ w2 _ _).ag 0 _ rfl
        ·exact(ay.yQ w2 _ _).ag 1 _ rfl
        ·exact(ay.yQ w2 _ _).ag 2 _ rfl
        rintro e w' ⟨rfl,rfl⟩
        go_wp2
        go_roundw
        case rel=>
         go_light;rw[O5,OB];exact FV hlt hv1 HY.out HWS.out EK.out EW.out q0 q1 q2 q3
        case measure=>simp[intOf];omega
      ·obtain rfl:k=64:=by omega
       clear hlt hk;obtain⟨y,hy⟩:=x_ (rounds K (mX 48 (dM s)) x 64)
       rw[<-hy]at hB;have HY:=h_ hy;clear hy;have G0:Hid (wr.heap[bv]? =some (.cells #[.int .u32 y.a.toNat, .int .u32 y.b.toNat, .int .u32 y.c.toNat, .int .u32 y.d.toNat, .int .u32 y.e.toNat, .int .u32 y.f.toNat, .int .u32 y.g.toNat, .int .u32 y.h.toNat] 292 (0,0))):=hB;go_wp2_with (refine wpList_load_row rfl 292 _ rfl _ rfl 292 _ (0,0) _ G0.out Tryz.underlying292 rfl (by kernel_rfl) ?_)
       clear G0 hB;obtain⟨wo3,rfl⟩:=x_ (wr:World)
       go_loopw [162] (λi wr=>Qd w x y i wr) (λi _=>8- (intOf i).toNat)
       case atStart=>exact⟨0,x.list,by omega,rfl,rfl,λj hj=>by rw[if_neg (by omega)];exact wM x j hj,hB0,hB1,hbl⟩
       case round=>
        clear hB0 hB1 hbl;obtain⟨k,l,hk,rfl,hl,hls,hB0,hB1,hbl⟩:=hrel;have HLL:=h_ hl;have HLS:=h_ hls;clear hl hls;by_cases hlt:k<8
        ·have hidx:=λwx=>QP (y.list.map W).toArray k (.int .u32 (y.list.getD k 0).toNat) (by
          rw[List.getElem?_toArray,mx,wM y k hlt];rfl) hlt wx
         have hidx':∀wx:World,(Instr.index 292 (.agg #[.int .u32 y.a.toNat, .int .u32 y.b.toNat, .int .u32 y.c.toNat, .int .u32 y.d.toNat, .int .u32 y.e.toNat, .int .u32 y.f.toNat, .int .u32 y.g.toNat, .int .u32 y.h.toNat]) (.int .i64 k)).run Tryz.prog wx= .ok (.int .u32 (y.list.getD k 0).toNat) wx:=hidx;clear hidx;have hc:=hB0.ag k (.int .u32 (x.list.getD k 0).toNat) (by rw[mx,HLS.out k hlt,if_neg (by omega)];rfl);have hf:=hB0.frozen k;obtain⟨xk,ex⟩:=x_ (x.list.getD k 0)
         obtain⟨yk,ey⟩:=x_ (y.list.getD k 0)
         rw[<-ex]at hc;rw[<-ey]at hidx';have EX:=h_ ex;have EY:=h_ ey;clear ex ey;have i0:(0:Int)<=(k:Int):=by omega
         have i1:(k:Int)<8:=by omega
         go_wp2
         go_roundw
         case rel=>
          go_light;rw[add_mod,EX.out,EY.out];exact FW hlt HLL.out HLS.out hB0 hB1 hbl
         case measure=>simp[intOf];omega
        ·obtain rfl:k=8:=by omega
         clear hlt hk;have hL:=Tr HLL.out HLS.out;obtain⟨z,hz⟩:=x_ (x.add y)
         rw[<-hz]at hL;have HZ:Hid (z=yO K x s):=by rw[hz,HY.out];rfl
         rw[hL]at hB0;clear hL hz HLL HLS;have G0:Hid (wr.heap[w.heap.size]? =some (.cells #[.int .u32 z.a.toNat, .int .u32 z.b.toNat, .int .u32 z.c.toNat, .int .u32 z.d.toNat, .int .u32 z.e.toNat, .int .u32 z.f.toNat, .int .u32 z.g.toNat, .int .u32 z.h.toNat] 292 (0,0))):=hB0;have c0:=hB1.ag 0 _ rfl;have c1:=hB1.ag 1 _ rfl;have c2:=hB1.ag 2 _ rfl;have c3:=hB1.ag 3 _ rfl;have c4:=hB1.ag 4 _ rfl;have c5:=hB1.ag 5 _ rfl;have c6:=hB1.ag 6 _ rfl;have c7:=hB1.ag 7 _ rfl;have f0:=hB1.frozen 0;have f1:=hB1.frozen 1;have f2:=hB1.frozen 2;have f3:=hB1.frozen 3;have f4:=hB1.frozen 4;have f5:=hB1.frozen 5;have f6:=hB1.frozen 6;have f7:=hB1.frozen 7;go_wp2_with (refine wpList_load_row rfl 292 _ rfl _ rfl 292 _ (0,0) _ G0.out Tryz.underlying292 rfl (by kernel_rfl) ?_)
         have hb:∀i:Nat,w.heap.size<=(⟨w.heap.size+1,i,none⟩:Addr).block:=λi=>by simp
         refine bodyPost_ret (v:= .agg z.cells.toArray) (results_cell_row (fn:=Tryz.f201) (p:=4) (ty:=292) rfl _ _ (w.heap.size+1) 292 z.cells.toArray (0,0) _ rfl ((((((((hB1.set 0 _).set 1 _).set 2 _).set 3 _).set 4 _).set 5 _).set 6 _).set 7 _) Tryz.underlying292 rfl (by kernel_rfl)) rfl ⟨by rw[HZ.out], ?_⟩;exact(((((((hbl.setCell (hb _) _).setCell (hb _) _).setCell (hb _) _).setCell (hb _) _).setCell (hb _) _).setCell (hb _) _).setCell (hb _) _).setCell (hb _) _
end Go.Proofs.YtkmbmfengcdmoaaGreatDoor
namespace Go.Proofs.YtkmbmfengcdmoaaGreatDoor
open Go.RowKit Go.W32 Go.ay
def KE(m:Nat):List UInt8:=(List.range 8).map λj=>UInt8.ofNat (m / 256 ^ (7-j))
theorem rE(m:Nat):(KE m).length=8:=by simp[KE]
def Bf(e:ByteArray)(n:Nat):ByteArray:=e++⟨#[128]⟩++⟨(Lib.repeatL [0] ((119-e.size) % 64)).toArray⟩++⟨(KE (n*8)).toArray⟩

def Qg(w:World)(m:Nat)(i left:Value)(wr:World):Prop:=
 ∃(k:Nat) (l:List UInt8),k<=8/\i= .int .i64 (7- (k:Int))/\left= .int .u64 ((m / 256 ^ k:Nat):Int)/\l.length=8/\(∀j,j<8->8-k<=j->l[j]? =some (UInt8.ofNat (m / 256 ^ (7-j))))/\ay wr w.heap.size (l.map C8) 5/\Below w.heap.size w wr

theorem F7{w wr:World}{m k:Nat}{l:List UInt8}(hk:k<8)(hl:l.length=8)(h:∀j,j<8->8-k<=j->l[j]? =some (UInt8.ofNat (m / 256 ^ (7-j))))(hB:ay wr w.heap.size (l.map C8) 5)(hb:Below w.heap.size w wr)(a b c:Int)
  (ha:a=7- ((k+1:Nat):Int)) (hbb:b=((m / 256 ^ (k+1):Nat):Int)) (hc:c=(m / 256 ^ k:Nat) % 256):
  Qg w m (.int .i64 a) (.int .u64 b) (wr.setCell ⟨w.heap.size,7-k,none⟩ (.int .u8 c)):=by
 subst ha;subst hbb;subst hc;refine⟨k+1,l.set (7-k) (UInt8.ofNat (m / 256 ^ k)),by omega,rfl,rfl,by simp[hl], ?_, ?_,hb.setCell (aL _) _⟩
 ·intro j hj hjk;by_cases e:j=7-k
  ·subst e;rw[Sk (by omega),show 7- (7-k)=k by omega]
  ·rw[List.getElem?_set_ne (by omega)];exact h j hj (by omega)
 ·rw[Py]
  have:C8 (UInt8.ofNat (m / 256 ^ k))= .int .u8 (((m / 256 ^ k:Nat):Int) % 256):=by unfold C8;congr 1
  rw[this];exact hB.set _ _
theorem Oi{m:Nat}{l:List UInt8}(hl:l.length=8)(h:∀j,j<8->8-8<=j->l[j]? =some (UInt8.ofNat (m / 256 ^ (7-j)))):l=KE m:=by
 apply rC;intro i;by_cases hi:i<8
 ·rw[h i hi (by omega)];simp[KE,hi]
 ·rw[pz (by omega),pz (by rw[rE];omega)]

set_option maxHeartbeats 1000000 in
theorem Bg(e:ByteArray)(n:Nat)(w:World)(he:e.size<64)(hn:n<281474976710656):
  Calls Tryz.prog 202 #[.string e, .int .i64 n] w λr w'=>r= .returned (.string (Bf e n))/\Below w.heap.size w w':=by
 have hmk:∀w:World,(Instr.makeSlice 117 (.int .i64 8) (.int .i64 8)).run Tryz.prog w= .ok (.slice (some ⟨w.heap.size,0,none⟩) 8 8) (w.alloc (.cells #[.int .u8 0, .int .u8 0, .int .u8 0, .int .u8 0, .int .u8 0, .int .u8 0, .int .u8 0, .int .u8 0] 5)):=λ_=>by kernel_rfl
 go_enter Tryz.func202,Tryz.ntmps202;go_wp2_with fail
 go_loopw [7,8] (λi l wr=>Qg w (n*8) i l wr) (λi _ _=>(1+intOf i).toNat)
 case atStart=>
  refine⟨0,List.replicate 8 0,by omega,rfl,by simp,by simp,λj h1 h2=>by omega,ay.made rfl (by simp[C8]),(Below.refl _ _).alloc (aL _) _⟩
 case round=>
  obtain⟨k,l,hk,rfl,rfl,hl,hls,hB,hbl⟩:=hrel;have HL:=h_ hl;have HS:=h_ hls;clear hl hls;by_cases hlt:k<8
  ·obtain⟨y,hy⟩:∃y,l[7-k]? =some y:=⟨l[7-k]'(by have:=HL.out;omega),by simp⟩
   have hc:=hB.ag (7-k) (.int .u8 y.toNat) (by rw[mx,hy];rfl);have HY:=h_ hy;clear hy;have hf:=hB.frozen (7-k);have hm:n*8 / 256 ^ k<=n*8:=Nat.div_le_self _ _;have HD:Hid (n*8 / 256 ^ (k+1)=n*8 / 256 ^ k / 256):=by show _=_;rw[GL,Nat.div_div_eq_div_mul]
   obtain⟨m,em⟩:=x_ (n*8 / 256 ^ k)
   rw[<-em]at hm⊢;have EM:=h_ em;clear em;have i0:(0:Int)<=7- (k:Int):=by omega
   have i1:(7- (k:Int))<8:=by omega
   have i2:(7- (k:Int)).toNat=7-k:=by omega
   have i3:(k:Int)<=7:=by omega
   go_wp2
   go_roundw
   case rel=>
    go_light;exact F7 hlt HL.out HS.out hB hbl _ _ _ (by omega) (by rw[HD.out, <-EM.out];omega) (by rw[<-EM.out])
   case measure=>simp[intOf];omega
  ·obtain rfl:k=8:=by omega
   clear hlt hk;have hL:=Oi HL.out HS.out;rw[hL]at hB;clear hL HL HS;go_wp2_with fail;have hz:(((119-e.size) % 64:Nat):Int)=(119- (e.size:Int)) % 64:=by omega
   obtain⟨z,ez⟩:=x_ ((119-e.size) % 64)
   have hz2:z<64:=by omega
   rw[<-ez]at hz;generalize ha:Act.mk _ _=a;have sz:a.tmps.size=36:=by rw[<-ha];rfl
   have s0:a.tmps[0]'(by omega)= .string e:=by subst ha;rfl
   have s5:a.tmps[5]'(by omega)= .int .i64 z:=by subst ha;rw[hz];rfl
   have s6:a.tmps[6]'(by omega)= .slice (some ⟨w.heap.size,0,none⟩) 8 8:=by subst ha;rfl
   have HA:=h_ ha;have HZ:=h_ ez;clear ha hz ez;have r1:(Lib.repeatL [0] z).length=z:=by rw[Lib.repeatL_length];simp
   have r2:=rE (n*8);refine Free.ai 9 [(3, .det (.string ⟨(Lib.repeatL [0] z).toArray⟩))] (λw2=>ay w2 w.heap.size ((KE (n*8)).map C8) 5) (by kernel_rfl) (by kernel_rfl) ?_ hB (λ_ _ h g=>h.below g h.lt) ?_
   ·intro j mk r hf;simp only[Free.find]at hf
    repeat' split at hf
    all_goals (first|cases hf|skip)
   ·simp only[eJ,dT];iterate 9 (first|(apply Free.aC rfl rfl;(intro w' hb hA;refine Free.au (by go_simp;exact⟨rfl,rfl⟩) ?_;refine(Tryz.strings_Repeat ⟨#[0]⟩ z _ (by omega) (by show 1*z<=_;omega)).mono ?_;rintro e w2 ⟨rfl,hb2⟩;exact⟨_,rfl,hb2,rfl⟩))|(apply Free.ae rfl rfl;(intro w' hb hA;clear hA;go_light;go_simp<;>(first|rfl|(rw[if_neg (by omega)]))))|(apply Free.ae rfl rfl;(intro w' hb hA;clear hA;go_light;have hcv:=sq (P:=Tryz.prog) (cap:=8) (KE (n*8)) Tryz.underlying117 Tryz.underlying5 Tryz.underlying9 hb (λj hj=>by rw[mx,eH hj];rfl);rw[rE]at hcv;go_simp<;>rfl)))
    apply Free.ax;intro w2 _ hg _;have hg':=qh hg;have q3:Below w.heap.size w w2:=hbl.trans (hg'.mono hbl.size);clear hg hg' s0 s5 s6 sz;simp only[fm,fo];obtain rfl:=HA.out
    go_wp2
    go_ret;have ep:Bf e n=e++⟨#[128]⟩++⟨(Lib.repeatL [0] z).toArray⟩++⟨(KE (n*8)).toArray⟩:=by rw[Bf, <-HZ.out]
    exact⟨by rw[ep];rfl,q3⟩
end Go.Proofs.YtkmbmfengcdmoaaGreatDoor
