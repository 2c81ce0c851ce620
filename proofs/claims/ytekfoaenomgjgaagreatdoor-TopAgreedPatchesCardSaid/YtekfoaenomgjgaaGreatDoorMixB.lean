/- The walk of digest.mixed: one block of SHA-256, for a block of 64 bytes, where the variable constants holds the list K. -/
import Derived.Test.YtekfoaenomgjgaaGreatDoorMixA
import Derived.Test.YtekfoaenomgjgaaGreatDoorRows
import Derived.WalkSpells
import Derived.WalkLawsBesides
import Derived.Deep.QuietTactic
import Derived.BigQuiet
import Derived.StillTailTactics
import Derived.Outline
import Derived.Deep.Light
set_option maxRecDepth 100000
set_option linter.all false
namespace Go.Proofs.YtekfoaenomgjgaaGreatDoor
open Go.RowKit Go.W32 Go.Blk

theorem idx64(cs:Array Value)(k:Nat)(v:Value)(hv:cs[k]? =some v)(hk:k<64)(w:World):(Instr.index 186 (.agg cs) (.int .i64 k)).run Tryz.prog w= .ok v w:=by
 have h1:(0:Int)<=(k:Int):=by omega
 have h2:(k:Int)<64:=by omega
 have h3:(k:Int).toNat=k:=by omega
 unfold Instr.index part
 go_simp
theorem idx8(cs:Array Value)(k:Nat)(v:Value)(hv:cs[k]? =some v)(hk:k<8)(w:World):(Instr.index 150 (.agg cs) (.int .i64 k)).run Tryz.prog w= .ok v w:=by
 have h1:(0:Int)<=(k:Int):=by omega
 have h2:(k:Int)<8:=by omega
 have h3:(k:Int).toNat=k:=by omega
 unfold Instr.index part
 go_simp

theorem info64:(Tryz.prog.info? 186).map (·.size)=some 64:=by kernel_rfl
def Rel3(w:World)(bv:Nat)(K:List UInt32)(s:ByteArray)(x:S8)(i:Value)(wr:World):Prop:=
 ∃k:Nat,k<=64/\i= .int .i64 k/\Blk wr bv (gg K (extW 48 (bO s)) x k).cells 150/\Blk wr w.heap.size x.cells 150/\Blk wr (w.heap.size+1) (List.replicate 8 (W 0)) 150/\Below (w.heap.size) w wr
theorem max_w:IntKind.u32.max=4294967295:=by decide
theorem ch_val(y:S8):bits BinOp.xor IntKind.u32 (bits BinOp.and IntKind.u32 ↑y.e.toNat ↑y.f.toNat) (bits BinOp.and IntKind.u32 (bits BinOp.xor IntKind.u32 IntKind.u32.max ↑y.e.toNat) ↑y.g.toNat)=(((y.e&&&y.f) ^^^ (~~~y.e&&&y.g)).toNat:Int):=by
 rw[max_w,not_w,and_w,and_w,xor_w]
theorem maj_val(y:S8):bits BinOp.xor IntKind.u32 (bits BinOp.xor IntKind.u32 (bits BinOp.and IntKind.u32 ↑y.a.toNat ↑y.b.toNat) (bits BinOp.and IntKind.u32 ↑y.a.toNat ↑y.c.toNat)) (bits BinOp.and IntKind.u32 ↑y.b.toNat ↑y.c.toNat)=((((y.a&&&y.b) ^^^ (y.a&&&y.c)) ^^^ (y.b&&&y.c)).toNat:Int):=by
 rw[and_w,and_w,and_w,xor_w,xor_w]
theorem pq_val(y:S8)(kt wt:UInt32):((y.h.toNat:Int)+ ↑(rots y.e [6,11,25]).toNat+bits BinOp.xor IntKind.u32 (bits BinOp.and IntKind.u32 ↑y.e.toNat ↑y.f.toNat) (bits BinOp.and IntKind.u32 (bits BinOp.xor IntKind.u32 IntKind.u32.max ↑y.e.toNat) ↑y.g.toNat)+ ↑kt.toNat+ ↑wt.toNat+
  (↑(rots y.a [2,13,22]).toNat+bits BinOp.xor IntKind.u32 (bits BinOp.xor IntKind.u32 (bits BinOp.and IntKind.u32 ↑y.a.toNat ↑y.b.toNat) (bits BinOp.and IntKind.u32 ↑y.a.toNat ↑y.c.toNat)) (bits BinOp.and IntKind.u32 ↑y.b.toNat ↑y.c.toNat))) % 4294967296=((tP y kt wt+tQ y).toNat:Int):=by
 rw[ch_val,maj_val, <-cf]
 unfold tP tQ
 rw[<-cf, <-cf, <-cf, <-cf, <-cf]
 simp only[Int.emod_add_emod,Int.add_emod_emod]
theorem dp_val(y:S8)(kt wt:UInt32):((y.d.toNat:Int)+(↑y.h.toNat+ ↑(rots y.e [6,11,25]).toNat+bits BinOp.xor IntKind.u32 (bits BinOp.and IntKind.u32 ↑y.e.toNat ↑y.f.toNat) (bits BinOp.and IntKind.u32 (bits BinOp.xor IntKind.u32 IntKind.u32.max ↑y.e.toNat) ↑y.g.toNat)+ ↑kt.toNat+ ↑wt.toNat)) % 4294967296=((y.d+tP y kt wt).toNat:Int):=by
 rw[ch_val, <-cf]
 unfold tP
 rw[<-cf, <-cf, <-cf, <-cf]
 simp only[Int.emod_add_emod,Int.add_emod_emod]
theorem rel3_step{w:World}{bv:Nat}{K ws:List UInt32}{s:ByteArray}{x y:S8}{k:Nat}{w2:World}{kt wt:UInt32}{o:Obj}(hlt:k<64)(hv:w.heap.size+1+1<bv)(hy:y=gg K (extW 48 (bO s)) x k)(hws:ws=extW 48 (bO s))(ek:kt=K.getD k 0)(ew:wt=ws.getD k 0)
  (q0:Blk w2 bv y.cells 150) (q1:Blk w2 w.heap.size x.cells 150) (q2:Blk w2 (w.heap.size+1) (List.replicate 8 (W 0)) 150) (q3:Below w.heap.size w w2):
  Rel3 w bv K s x (.int .i64 (↑k+1)) (((((((((w2.setCell ⟨bv,0,none⟩ (.int .u32 (tP y kt wt+tQ y).toNat)).setCell ⟨bv,1,none⟩ (.int .u32 y.a.toNat)).setCell ⟨bv,2,none⟩ (.int .u32 y.b.toNat)).setCell ⟨bv,3,none⟩ (.int .u32 y.c.toNat)).setCell ⟨bv,4,none⟩ (.int .u32 (y.d+tP y kt wt).toNat)).setCell ⟨bv,5,none⟩ (.int .u32 y.e.toNat)).setCell ⟨bv,6,none⟩ (.int .u32 y.f.toNat)).setCell ⟨bv,7,none⟩ (.int .u32 y.g.toNat)).alloc o):=by
 have e:gg K (extW 48 (bO s)) x (k+1)=round y kt wt:=by rw[gg, <-hy, <-hws, <-ek, <-ew]
 have ne:∀(b:Nat),b<=w.heap.size+1->∀i:Nat,(⟨bv,i,none⟩:Addr).block≠b:=fun b hb i=>by simp;omega
 refine⟨k+1,by omega,by go_num, ?_, ?_, ?_, ?_⟩
 ·rw[e]
  exact((((((((q0.set 0 _).set 1 _).set 2 _).set 3 _).set 4 _).set 5 _).set 6 _).set 7 _).alloc _
 ·exact((((((((q1.set_ne (ne _ (by omega) _) _).set_ne (ne _ (by omega) _) _).set_ne (ne _ (by omega) _) _).set_ne (ne _ (by omega) _) _).set_ne (ne _ (by omega) _) _).set_ne (ne _ (by omega) _) _).set_ne (ne _ (by omega) _) _).set_ne (ne _ (by omega) _) _).alloc _
 ·exact((((((((q2.set_ne (ne _ (by omega) _) _).set_ne (ne _ (by omega) _) _).set_ne (ne _ (by omega) _) _).set_ne (ne _ (by omega) _) _).set_ne (ne _ (by omega) _) _).set_ne (ne _ (by omega) _) _).set_ne (ne _ (by omega) _) _).set_ne (ne _ (by omega) _) _).alloc _
 ·have hb:∀i:Nat,w.heap.size<=(⟨bv,i,none⟩:Addr).block:=fun i=>by simp;omega
  exact((((((((q3.setCell (hb _) _).setCell (hb _) _).setCell (hb _) _).setCell (hb _) _).setCell (hb _) _).setCell (hb _) _).setCell (hb _) _).setCell (hb _) _).alloc (by simp[World.setCell];exact q3.size) _

def S8.list(x:S8):List UInt32:= [x.a,x.b,x.c,x.d,x.e,x.f,x.g,x.h]
def Rel4(w:World)(x y:S8)(i:Value)(wr:World):Prop:=
 ∃(k:Nat) (l:List UInt32),k<=8/\i= .int .i64 k/\l.length=8/\(∀j,j<8->l[j]? =some (if j<k then x.list.getD j 0+y.list.getD j 0 else x.list.getD j 0))/\Blk wr w.heap.size (l.map W) 150/\Blk wr (w.heap.size+1) (List.replicate 8 (W 0)) 150/\Below w.heap.size w wr
theorem sum8{l:List UInt32}{x y:S8}(hl:l.length=8)(h:∀j,j<8->l[j]? =some (if j<8 then x.list.getD j 0+y.list.getD j 0 else x.list.getD j 0)):l=(x.add y).list:=by
 apply List.ext_getElem?
 intro i
 by_cases hi:i<8
 ·rw[h i hi,if_pos hi]
  match i,hi with
  |0,_|1,_|2,_|3,_|4,_|5,_|6,_|7,_=>rfl
 ·rw[List.getElem?_eq_none (by omega),List.getElem?_eq_none (by simp[S8.list];omega)]
theorem list_at(x:S8)(k:Nat)(h:k<8):x.list[k]? =some (x.list.getD k 0):=by
 rw[List.getD_eq_getElem?_getD,List.getElem?_eq_getElem (by simpa[S8.list]using h)];rfl
theorem rel4_step{w wr:World}{x y:S8}{k:Nat}{l:List UInt32}(hlt:k<8)(hl:l.length=8)(h:∀j,j<8->l[j]? =some (if j<k then x.list.getD j 0+y.list.getD j 0 else x.list.getD j 0))
  (q0:Blk wr w.heap.size (l.map W) 150) (q1:Blk wr (w.heap.size+1) (List.replicate 8 (W 0)) 150) (q3:Below w.heap.size w wr):
  Rel4 w x y (.int .i64 (↑k+1)) (wr.setCell ⟨w.heap.size,k,none⟩ (.int .u32 (x.list.getD k 0+y.list.getD k 0).toNat)):=by
 refine⟨k+1,l.set k (x.list.getD k 0+y.list.getD k 0),by omega,by go_num,by simp[hl], ?_, ?_,q1.set_ne (by simp) _,q3.setCell (Nat.le_refl _) _⟩
 ·intro j hj
  by_cases e:j=k
  ·subst e;rw[List.getElem?_set_self (by omega),if_pos (by omega)]
  ·rw[List.getElem?_set_ne (by omega),h j hj]
   by_cases hjk:j<k
   ·rw[if_pos hjk,if_pos (by omega)]
   ·rw[if_neg hjk,if_neg (by omega)]
 ·rw[List.map_set];exact q0.set k _
attribute [local go_sem] evs evn psz

set_option maxHeartbeats 4000000 in
theorem mixed_any(x:S8)(K:List UInt32)(s:ByteArray)(hs:s.size=64)(w:World)(hK:∀t,t<64->w.cell? ⟨0,t,none⟩=some (.int .u32 (K.getD t 0).toNat)):
  Calls Tryz.prog 77 #[.agg #[.int .u32 x.a.toNat, .int .u32 x.b.toNat, .int .u32 x.c.toNat, .int .u32 x.d.toNat, .int .u32 x.e.toNat, .int .u32 x.f.toNat, .int .u32 x.g.toNat, .int .u32 x.h.toNat], .string s] w fun e w'=>e= .returned (.agg (mixS K x s).cells.toArray)/\Below w.heap.size w w':=by
 have HS:=h_ hs
 have HK:=h_ hK
 have hs1:s.size<=64:=by omega
 have hs2:64<=s.size:=by omega
 clear hs hK
 go_enter Tryz.func77,Tryz.ntmps77
 go_wp2_with fail
 go_loopw [24] (fun i wr=>Rel1 w s x i wr) (fun i _=>16- (intOf i).toNat)
 case atStart=>
  refine⟨0,List.replicate 64 0,by omega,rfl,by simp,by omega, ?_, ?_, ?_, ?_⟩
  ·exact Blk.made (by simp) (by simp[W])
  ·exact((Blk.made rfl (by simp[W,S8.cells])).alloc _).alloc _
  ·exact(Blk.made (by simp) (by simp[W])).alloc _
  ·exact(((Below.refl _ _).alloc (Nat.le_refl _) _).alloc (by simp) _).alloc (by simp;omega) _
 case round=>
  obtain⟨k,ws,hk,rfl,hl,hws,hB,hB0,hB1,hbl⟩:=hrel
  have HL:=h_ hl
  have HW:=h_ hws
  clear hl hws
  by_cases hlt:k<16
  ·as_aux_lemma=>
   have hfz:=hB.frozen k
   obtain⟨y,hx⟩:∃x,ws[k]? =some x:=⟨ws[k]'(by have:=HL.out;omega),by simp⟩
   have hcell:=hB.cellD k (.int .u32 y.toNat) (by simp[hx,W])
   have HX:=h_ hx
   clear hx
   have i0:(0:Int)<=(k:Int):=by omega
   have i1:(k:Int)<64:=by omega
   go_wp2_with fail
   have hsz:(s.extract (4*k) (4*k+4)).size=4:=by simp;omega
   go_still_tail 20,(by kernel_rfl)
   change wpList _ _ _ _ _ wr.drew
   go_wp2
   go_roundw
   case rel=>
    rw[be_all s HS.out k hlt hsz]
    refine⟨k+1,ws.set k (be s k),by omega,by go_num,by simp[HL.out], ?_, ?_, ?_, ?_, ?_⟩
    ·exact set_next HW.out (by rw[HL.out];omega)
    ·rw[List.map_set];exact(hB.set k _).drew
    ·exact(hB0.set_ne (by simp;omega) _).drew
    ·exact(hB1.set_ne (by simp) _).drew
    ·exact(hbl.setCell (by simp;omega) _).drew
   case measure=>simp[intOf];omega
  ·obtain rfl:k=16:=by omega
   clear hlt hk
   have H16:=h_ (first16_of HL.out HW.out)
   clear HW
   go_wp2_with fail
   obtain⟨wo,rfl⟩:∃wo:World,wo=wr:=⟨_,rfl⟩
   go_loopw [8] (fun i wr=>Rel2 w s x i wr) (fun i _=>64- (intOf i).toNat)
   case atStart=>exact⟨16,ws,by omega,by omega,rfl,HL.out,H16.out,hB,hB0,hB1,hbl⟩
   case round=>
    clear hB hB0 hB1 hbl HL H16
    clear ws
    obtain⟨k,ws,hk1,hk2,rfl,hl,hws,hB,hB0,hB1,hbl⟩:=hrel
    have HL:=h_ hl
    have HW:=h_ hws
    clear hl hws
    by_cases hlt:k<64
    ·have hlen:(extW (k-16) (bO s)).length=k:=by rw[extW_len,first16_len];omega
     obtain⟨l,hl⟩:∃l,l=extW (k-16) (bO s):=⟨_,rfl⟩
     rw[<-hl]at hlen
     have HLL:=h_ hlen
     have HE:=h_ hl
     have HT:Hid (ws.take k=l):=by rw[hl];exact HW.out
     clear hl hlen HW
     obtain⟨x15,e15⟩:∃x,x=l.getD (k-15) 0:=⟨_,rfl⟩
     obtain⟨x16,e16⟩:∃x,x=l.getD (k-16) 0:=⟨_,rfl⟩
     obtain⟨x7,e7⟩:∃x,x=l.getD (k-7) 0:=⟨_,rfl⟩
     obtain⟨x2,e2⟩:∃x,x=l.getD (k-2) 0:=⟨_,rfl⟩
     obtain⟨y,ey⟩:∃y,ws[k]? =some y:=⟨ws[k]'(by have:=HL.out;omega),by simp⟩
     have c15:=hB.cellD (k-15) (.int .u32 x15.toNat) (by rw[List.getElem?_map,fE HT.out HLL.out (by omega), <-e15];rfl)
     have c16:=hB.cellD (k-16) (.int .u32 x16.toNat) (by rw[List.getElem?_map,fE HT.out HLL.out (by omega), <-e16];rfl)
     have c7:=hB.cellD (k-7) (.int .u32 x7.toNat) (by rw[List.getElem?_map,fE HT.out HLL.out (by omega), <-e7];rfl)
     have c2:=hB.cellD (k-2) (.int .u32 x2.toNat) (by rw[List.getElem?_map,fE HT.out HLL.out (by omega), <-e2];rfl)
     have E15:=h_ e15
     have E16:=h_ e16
     have E7:=h_ e7
     have E2:=h_ e2
     have EY:=h_ ey
     clear e15 e16 e7 e2 ey
     have i0:(0:Int)<=(k:Int):=by omega
     have i1:(k:Int)<64:=by omega
     go_wp2_with fail
     go_quiet (fail)
     go_wp2_with fail
     have b1:(16:Int)<=(k:Int):=by omega
     have b2:(k:Int)-16<64:=by omega
     have b4:(7:Int)<=(k:Int):=by omega
     have b5:(k:Int)-7<64:=by omega
     have b3:((k:Int)-16).toNat=k-16:=by omega
     have b6:((k:Int)-7).toNat=k-7:=by omega
     have b7:IntKind.i64.wrap ((k:Int)-16)=(k:Int)-16:=IntWalk.i64_in _ (by omega)
     have b8:IntKind.i64.wrap ((k:Int)-7)=(k:Int)-7:=IntWalk.i64_in _ (by omega)
     generalize ha:Act.mk _ _=a
     have sz:a.tmps.size=174:=by rw[<-ha];rfl
     have s5:a.tmps[5]'(by omega)= .pointer (some ⟨w.heap.size+1+1,0,none⟩):=by subst ha;rfl
     have s8:a.tmps[8]'(by omega)= .int .i64 k:=by subst ha;rfl
     have s9:a.tmps[9]'(by omega)= .int .u32 x15.toNat:=by subst ha;rfl
     have s10:a.tmps[10]'(by omega)= .int .u32 x2.toNat:=by subst ha;rfl
     have HA:=h_ ha
     clear ha
     refine Free.wp_region_free 25 [(6, .ind (fun x=> .slice (some ⟨x,0,none⟩) 2 2) (fun x w2=>Blk w2 x [.int .i64 7, .int .i64 18] 3)),(7, .det (.int .u32 (rots x15 [7,18]).toNat)),(18, .ind (fun x=> .slice (some ⟨x,0,none⟩) 2 2) (fun x w2=>Blk w2 x [.int .i64 17, .int .i64 19] 3)),(19, .det (.int .u32 (rots x2 [17,19]).toNat))] (fun w2=>w2.cell? ⟨w.heap.size+1+1,k-16,none⟩=some (.int .u32 x16.toNat)/\w2.cell? ⟨w.heap.size+1+1,k-7,none⟩=some (.int .u32 x7.toNat)) (by kernel_rfl) (by kernel_rfl) ?_ ⟨c16,c7⟩ (fun _ _ h g=>⟨ax h.1 g,ax h.2 g⟩) ?_
     ·intro j mk r hf
      simp only[Free.find]at hf
      repeat' split at hf
      all_goals (first|cases hf|skip)
      all_goals exact fun x w w' h g=>h.below g h.lt
     ·simp only[List.take_succ_cons,List.take_zero]
      iterate 7 (first|(apply Free.chain_ind rfl rfl;(intro w' ⟨hb1,hb2⟩ hA;refine Free.opRun_of (by go_simp<;>rfl) ⟨Free.Grow.alloc _ _,w'.heap.size,rfl,Blk.newA _ _ _⟩))|(apply Free.chain_still rfl rfl;(intro w' ⟨hb1,hb2⟩ hA;clear hA;go_light;go_simp<;>rfl)))
      intro x1
      apply Free.chain_det rfl rfl
      ·intro w' ⟨hb1,hb2⟩ hA
       have hA6:=hA _ List.mem_cons_self (by kernel_rfl)
       refine Free.opRun_call (by go_simp;exact⟨rfl,rfl⟩) ?_
       refine(rot2 x15 x1 7 18 _ (by decide) (by decide) ?_ ?_).mono ?_
       ·exact hA6.cellD 0 _ rfl
       ·exact hA6.cellD 1 _ rfl
       ·rintro e w2 ⟨rfl,rfl⟩
        exact⟨_,rfl,Free.Grow.refl _,rfl⟩
      iterate 11 (first|(apply Free.chain_ind rfl rfl;(intro w' ⟨hb1,hb2⟩ hA;refine Free.opRun_of (by go_simp<;>rfl) ⟨Free.Grow.alloc _ _,w'.heap.size,rfl,Blk.newA _ _ _⟩))|(apply Free.chain_still rfl rfl;(intro w' ⟨hb1,hb2⟩ hA;clear hA;go_light;go_simp<;>rfl)))
      intro x3
      apply Free.chain_det rfl rfl
      ·intro w' ⟨hb1,hb2⟩ hA
       have hA6:=hA _ List.mem_cons_self (by kernel_rfl)
       refine Free.opRun_call (by go_simp;exact⟨rfl,rfl⟩) ?_
       refine(rot2 x2 x3 17 19 _ (by decide) (by decide) ?_ ?_).mono ?_
       ·exact hA6.cellD 0 _ rfl
       ·exact hA6.cellD 1 _ rfl
       ·rintro e w2 ⟨rfl,rfl⟩
        exact⟨_,rfl,Free.Grow.refl _,rfl⟩
      iterate 5 (apply Free.chain_still rfl rfl;(intro w' ⟨hb1,hb2⟩ hA;clear hA;go_light;go_simp<;>rfl))
      apply Free.chain_nil
      intro w2 _ hg _
      have hg':=grow_drewN hg
      clear hg
      have q0:=hB.below hg' hB.lt
      have q1:=hB0.below hg' hB0.lt
      have q2:=hB1.below hg' hB1.lt
      have q3:Below w.heap.size w w2:=hbl.trans (hg'.mono hbl.size)
      have c0':=q0.cellD k (.int .u32 y.toNat) (by rw[List.getElem?_map,EY.out];rfl)
      have f0':=q0.frozen k
      clear hg'
      clear b3 b6 b7 b8
      simp only[List.drop_succ_cons,List.drop_zero]
      obtain rfl:=HA.out
      go_wp2
      go_roundw
      case rel=>
       go_light
       rw[next_val]
       exact rel2_step hk1 hlt HL.out HLL.out HE.out HT.out q0 q1 q2 q3 _ (by rw[E15.out,E16.out,E7.out,E2.out])
      case measure=>simp[intOf];omega
    ·obtain rfl:k=64:=by omega
     clear hlt hk1 hk2
     have HWS:Hid (ws=extW 48 (bO s)):=by have:=HW.out;rwa[List.take_of_length_le (by rw[HL.out];omega)]at this
     clear HW
     have G0:Hid (wr.heap[w.heap.size]? =some (.cells #[.int .u32 x.a.toNat, .int .u32 x.b.toNat, .int .u32 x.c.toNat, .int .u32 x.d.toNat, .int .u32 x.e.toNat, .int .u32 x.f.toNat, .int .u32 x.g.toNat, .int .u32 x.h.toNat] 150 (0,0))):=hB0
     have i64:(Tryz.prog.info? 186).map (·.size)=some (ws.map W).toArray.size:=by
      have:(ws.map W).toArray.size=64:=by simp[HL.out]
      rw[this];exact info64
     have I64:=h_ i64
     clear i64
     go_wp2_with (first|(refine wpList_load_row rfl 150 _ rfl _ rfl 150 _ (0,0) _ G0.out Tryz.underlying150 rfl (by kernel_rfl) ?_)|(refine wpList_load_row rfl 186 _ rfl _ rfl 186 _ (0,0) _ (hB.alloc _) Tryz.underlying186 rfl I64.out ?_))
     obtain⟨wo2,rfl⟩:∃wo2:World,wo2=wr:=⟨_,rfl⟩
     obtain⟨bv,hbv⟩:∃bv,bv=wo2.heap.size:=⟨_,rfl⟩
     have HBV:=h_ hbv
     have hv1:w.heap.size+1+1<bv:=by rw[hbv];exact hB.lt
     rw[<-hbv]
     go_loopw [94] (fun i wr=>Rel3 w bv K s x i wr) (fun i _=>64- (intOf i).toNat)
     case atStart=>
      exact⟨0,by omega,rfl,Blk.made hbv rfl,hB0.alloc _,hB1.alloc _,hbl.alloc hbl.size _⟩
     case round=>
      clear hbv HBV hB hB0 hB1 hbl G0 I64
      obtain⟨k,hk,rfl,hB,hB0,hB1,hbl⟩:=hrel
      by_cases hlt:k<64
      ·obtain⟨y,hy⟩:∃y,y=gg K (extW 48 (bO s)) x k:=⟨_,rfl⟩
       rw[<-hy]at hB
       have HY:=h_ hy
       clear hy
       obtain⟨kt,ekt⟩:∃z,z=K.getD k 0:=⟨_,rfl⟩
       obtain⟨wt,ewt⟩:∃z,z=ws.getD k 0:=⟨_,rfl⟩
       have cK:wr.cell? ⟨0,k,none⟩=some (.int .u32 kt.toNat):=by
        have h:=HK.out k hlt
        rw[<-ekt]at h
        rw[hbl.cell (p:=⟨0,k,none⟩) (World.block_lt_of_cell? w _ h)];exact h
       have hidx:=fun wx=>idx64 (ws.map W).toArray k (.int .u32 wt.toNat) (by
        rw[ewt,List.getElem?_toArray,List.getElem?_map,List.getD_eq_getElem?_getD,List.getElem?_eq_getElem (by rw[HL.out];exact hlt)];rfl) hlt wx
       have EK:=h_ ekt
       have EW:=h_ ewt
       clear ekt ewt
       have c0:=hB.cellD 0 (.int .u32 y.a.toNat) rfl
       have c1:=hB.cellD 1 (.int .u32 y.b.toNat) rfl
       have c2:=hB.cellD 2 (.int .u32 y.c.toNat) rfl
       have c3:=hB.cellD 3 (.int .u32 y.d.toNat) rfl
       have c4:=hB.cellD 4 (.int .u32 y.e.toNat) rfl
       have c5:=hB.cellD 5 (.int .u32 y.f.toNat) rfl
       have c6:=hB.cellD 6 (.int .u32 y.g.toNat) rfl
       have c7:=hB.cellD 7 (.int .u32 y.h.toNat) rfl
       have i0:(0:Int)<=(k:Int):=by omega
       have i1:(k:Int)<64:=by omega
       go_wp2_with fail
       go_quiet (fail)
       go_wp2_with fail
       generalize ha:Act.mk _ _=a
       have sz:a.tmps.size=174:=by rw[<-ha];rfl
       have s11:a.tmps[11]'(by omega)= .pointer (some ⟨bv,0,none⟩):=by subst ha;rfl
       have s12:a.tmps[12]'(by omega)= .int .i64 k:=by subst ha;rfl
       have s13:a.tmps[13]'(by omega)= .int .u32 wt.toNat:=by subst ha;rfl
       have s17:a.tmps[17]'(by omega)= .int .u32 y.e.toNat:=by subst ha;rfl
       have s18:a.tmps[18]'(by omega)= .int .u32 y.f.toNat:=by subst ha;rfl
       have s19:a.tmps[19]'(by omega)= .int .u32 y.g.toNat:=by subst ha;rfl
       have HA:=h_ ha
       clear ha
       refine Free.wp_region_free 22 [(3, .ind (fun x=> .slice (some ⟨x,0,none⟩) 3 3) (fun x w2=>Blk w2 x [.int .i64 6, .int .i64 11, .int .i64 25] 3)),(4, .det (.int .u32 (rots y.e [6,11,25]).toNat))] (fun w2=>w2.cell? ⟨bv,7,none⟩=some (.int .u32 y.h.toNat)/\w2.cell? ⟨0,k,none⟩=some (.int .u32 kt.toNat)) (by kernel_rfl) (by kernel_rfl) ?_ ⟨c7,cK⟩ (fun _ _ h g=>⟨ax h.1 g,ax h.2 g⟩) ?_
       ·intro j mk r hf
        simp only[Free.find]at hf
        repeat' split at hf
        all_goals (first|cases hf|skip)
        all_goals exact fun x w w' h g=>h.below g h.lt
       ·simp only[List.take_succ_cons,List.take_zero]
        iterate 4 (first|(apply Free.chain_ind rfl rfl;(intro w' ⟨hb1,hb2⟩ hA;refine Free.opRun_of (by go_simp<;>rfl) ⟨Free.Grow.alloc _ _,w'.heap.size,rfl,Blk.newA _ _ _⟩))|(apply Free.chain_still rfl rfl;(intro w' ⟨hb1,hb2⟩ hA;clear hA;go_light;go_simp<;>rfl)))
        intro x1
        apply Free.chain_det rfl rfl
        ·intro w' ⟨hb1,hb2⟩ hA
         have hA6:=hA _ List.mem_cons_self (by kernel_rfl)
         refine Free.opRun_call (by go_simp;exact⟨rfl,rfl⟩) ?_
         refine(rot3 y.e x1 6 11 25 _ (by decide) (by decide) (by decide) ?_ ?_ ?_).mono ?_
         ·exact hA6.cellD 0 _ rfl
         ·exact hA6.cellD 1 _ rfl
         ·exact hA6.cellD 2 _ rfl
         ·rintro e w2 ⟨rfl,rfl⟩
          exact⟨_,rfl,Free.Grow.refl _,rfl⟩
        iterate 17 (apply Free.chain_still rfl rfl;(intro w' ⟨hb1,hb2⟩ hA;clear hA;go_light;go_simp<;>rfl))
        apply Free.chain_nil
        intro w2 _ hg _
        have hg':=grow_drewN hg
        clear hg
        have q0:=hB.below hg' hB.lt
        have q1:=hB0.below hg' hB0.lt
        have q2:=hB1.below hg' hB1.lt
        have q3:Below w.heap.size w w2:=hbl.trans (hg'.mono hbl.size)
        clear hg' c0 c1 c2 c4 c5 c6 c7 cK c3
        have hlw:=q0.lt
        have c0:=q0.cellD 0 (.int .u32 y.a.toNat) rfl
        have c1:=q0.cellD 1 (.int .u32 y.b.toNat) rfl
        have c2:=q0.cellD 2 (.int .u32 y.c.toNat) rfl
        have c3:=q0.cellD 3 (.int .u32 y.d.toNat) rfl
        have c4:=q0.cellD 4 (.int .u32 y.e.toNat) rfl
        have c5:=q0.cellD 5 (.int .u32 y.f.toNat) rfl
        have c6:=q0.cellD 6 (.int .u32 y.g.toNat) rfl
        have c7:=q0.cellD 7 (.int .u32 y.h.toNat) rfl
        have f0:=q0.frozen 0
        have f1:=q0.frozen 1
        have f2:=q0.frozen 2
        have f3:=q0.frozen 3
        have f4:=q0.frozen 4
        have f5:=q0.frozen 5
        have f6:=q0.frozen 6
        have f7:=q0.frozen 7
        simp only[List.drop_succ_cons,List.drop_zero]
        obtain rfl:=HA.out
        go_wp2_with fail
        refine(rot3 y.a _ 2 13 22 _ (by decide) (by decide) (by decide) ?_ ?_ ?_).mono ?_
        ·exact(Blk.newA w2 _ _).cellD 0 _ rfl
        ·exact(Blk.newA w2 _ _).cellD 1 _ rfl
        ·exact(Blk.newA w2 _ _).cellD 2 _ rfl
        rintro e w' ⟨rfl,rfl⟩
        go_wp2
        go_roundw
        case rel=>
         go_light
         rw[pq_val,dp_val]
         exact rel3_step hlt hv1 HY.out HWS.out EK.out EW.out q0 q1 q2 q3
        case measure=>simp[intOf];omega
      ·obtain rfl:k=64:=by omega
       clear hlt hk
       obtain⟨y,hy⟩:∃y,y=gg K (extW 48 (bO s)) x 64:=⟨_,rfl⟩
       rw[<-hy]at hB
       have HY:=h_ hy
       clear hy
       have G0:Hid (wr.heap[bv]? =some (.cells #[.int .u32 y.a.toNat, .int .u32 y.b.toNat, .int .u32 y.c.toNat, .int .u32 y.d.toNat, .int .u32 y.e.toNat, .int .u32 y.f.toNat, .int .u32 y.g.toNat, .int .u32 y.h.toNat] 150 (0,0))):=hB
       go_wp2_with (refine wpList_load_row rfl 150 _ rfl _ rfl 150 _ (0,0) _ G0.out Tryz.underlying150 rfl (by kernel_rfl) ?_)
       clear G0 hB
       obtain⟨wo3,rfl⟩:∃wo3:World,wo3=wr:=⟨_,rfl⟩
       go_loopw [162] (fun i wr=>Rel4 w x y i wr) (fun i _=>8- (intOf i).toNat)
       case atStart=>exact⟨0,x.list,by omega,rfl,rfl,fun j hj=>by rw[if_neg (by omega)];exact list_at x j hj,hB0,hB1,hbl⟩
       case round=>
        clear hB0 hB1 hbl
        obtain⟨k,l,hk,rfl,hl,hls,hB0,hB1,hbl⟩:=hrel
        have HLL:=h_ hl
        have HLS:=h_ hls
        clear hl hls
        by_cases hlt:k<8
        ·have hidx:=fun wx=>idx8 (y.list.map W).toArray k (.int .u32 (y.list.getD k 0).toNat) (by
          rw[List.getElem?_toArray,List.getElem?_map,list_at y k hlt];rfl) hlt wx
         have hidx':∀wx:World,(Instr.index 150 (.agg #[.int .u32 y.a.toNat, .int .u32 y.b.toNat, .int .u32 y.c.toNat, .int .u32 y.d.toNat, .int .u32 y.e.toNat, .int .u32 y.f.toNat, .int .u32 y.g.toNat, .int .u32 y.h.toNat]) (.int .i64 k)).run Tryz.prog wx= .ok (.int .u32 (y.list.getD k 0).toNat) wx:=hidx
         clear hidx
         have hc:=hB0.cellD k (.int .u32 (x.list.getD k 0).toNat) (by rw[List.getElem?_map,HLS.out k hlt,if_neg (by omega)];rfl)
         have hf:=hB0.frozen k
         obtain⟨xk,ex⟩:∃z,z=x.list.getD k 0:=⟨_,rfl⟩
         obtain⟨yk,ey⟩:∃z,z=y.list.getD k 0:=⟨_,rfl⟩
         rw[<-ex]at hc
         rw[<-ey]at hidx'
         have EX:=h_ ex
         have EY:=h_ ey
         clear ex ey
         have i0:(0:Int)<=(k:Int):=by omega
         have i1:(k:Int)<8:=by omega
         go_wp2
         go_roundw
         case rel=>
          go_light
          rw[cf,EX.out,EY.out]
          exact rel4_step hlt HLL.out HLS.out hB0 hB1 hbl
         case measure=>simp[intOf];omega
        ·obtain rfl:k=8:=by omega
         clear hlt hk
         have hL:=sum8 HLL.out HLS.out
         obtain⟨z,hz⟩:∃z,z=x.add y:=⟨_,rfl⟩
         rw[<-hz]at hL
         have HZ:Hid (z=mixS K x s):=by rw[hz,HY.out];rfl
         rw[hL]at hB0
         clear hL hz HLL HLS
         have G0:Hid (wr.heap[w.heap.size]? =some (.cells #[.int .u32 z.a.toNat, .int .u32 z.b.toNat, .int .u32 z.c.toNat, .int .u32 z.d.toNat, .int .u32 z.e.toNat, .int .u32 z.f.toNat, .int .u32 z.g.toNat, .int .u32 z.h.toNat] 150 (0,0))):=hB0
         have c0:=hB1.cellD 0 _ rfl
         have c1:=hB1.cellD 1 _ rfl
         have c2:=hB1.cellD 2 _ rfl
         have c3:=hB1.cellD 3 _ rfl
         have c4:=hB1.cellD 4 _ rfl
         have c5:=hB1.cellD 5 _ rfl
         have c6:=hB1.cellD 6 _ rfl
         have c7:=hB1.cellD 7 _ rfl
         have f0:=hB1.frozen 0
         have f1:=hB1.frozen 1
         have f2:=hB1.frozen 2
         have f3:=hB1.frozen 3
         have f4:=hB1.frozen 4
         have f5:=hB1.frozen 5
         have f6:=hB1.frozen 6
         have f7:=hB1.frozen 7
         go_wp2_with (refine wpList_load_row rfl 150 _ rfl _ rfl 150 _ (0,0) _ G0.out Tryz.underlying150 rfl (by kernel_rfl) ?_)
         have hb:∀i:Nat,w.heap.size<=(⟨w.heap.size+1,i,none⟩:Addr).block:=fun i=>by simp
         refine bodyPost_ret (v:= .agg z.cells.toArray) (results_cell_row (fn:=Tryz.f77) (p:=4) (ty:=150) rfl _ _ (w.heap.size+1) 150 z.cells.toArray (0,0) _ rfl ((((((((hB1.set 0 _).set 1 _).set 2 _).set 3 _).set 4 _).set 5 _).set 6 _).set 7 _) Tryz.underlying150 rfl (by kernel_rfl)) rfl ⟨by rw[HZ.out], ?_⟩
         exact(((((((hbl.setCell (hb _) _).setCell (hb _) _).setCell (hb _) _).setCell (hb _) _).setCell (hb _) _).setCell (hb _) _).setCell (hb _) _).setCell (hb _) _
end Go.Proofs.YtekfoaenomgjgaaGreatDoor
