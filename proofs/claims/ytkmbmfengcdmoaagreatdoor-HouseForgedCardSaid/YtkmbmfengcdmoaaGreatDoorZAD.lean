/- Package sign: Power, its closure, keyIs, secretIs: what they return for every number. -/
import Derived.Test.YtkmbmfengcdmoaaGreatDoorZAC
import Derived.Test.YtkmbmfengcdmoaaGreatDoorZAB
import Derived.Lib.ItoaNum
import Derived.Laws.BitsAllLaws
import Derived.Laws.BitsLemmas
set_option maxRecDepth 100000
set_option linter.all false
namespace Go.Proofs.YtkmbmfengcdmoaaGreatDoor
open Go.RowKit Go.W32 Go.ay

def blocks(K:List UInt32)(t:ByteArray)(x:S8):Nat->S8
 |0=>x
 |k+1=>yO K (blocks K t x k) (t.extract (64*k) (64*k+64))
def H0:S8:=⟨1779033703,3144134277,1013904242,2773480762,1359893119,2600822924,528734635,1541459225⟩
def AQ:List UInt8:= [48,49,50,51,52,53,54,55,56,57,97,98,99,100,101,102]
def PO(x:UInt32)(m:Nat):Nat:=x.toNat / 2 ^ (28-4*m) % 16
def ov(x:UInt32):List UInt8:=(List.range 8).map λm=>AQ.getD (PO x m) 0
def lq(x:S8):List UInt8:=x.list.flatMap ov
def uB(K:List UInt32)(t:ByteArray):ByteArray:=
 let p:=Bf (t.extract (64*(t.size / 64)) t.size) t.size
 ⟨(lq (blocks K p (blocks K t H0 (t.size / 64)) (p.size / 64))).toArray⟩
def xn:Value->Nat| .string s=>s.size|_=>0

theorem nf{P:Program}{o:Oper}{ρ:Operand->Value}{w:World}{ty:TypeId}{x:Operand}{g:Nat}{t:TypeId}{cs:Array Value}{fr:Nat×Nat}{d:TypeDesc}(ho:o.op= .load ty x)(hx:ρ x= .pointer (some ⟨g,0,none⟩))(hg:w.heap[g]? =some (.cells cs t fr))
  (hu:P.underlying ty=some d) (hd:(match d with| .struct _| .array _ _=>true|_=>false)=true) (hi:(P.info? ty).map (·.size)=some cs.size):(execOp ρ o).run P w= .ok (.value (.agg cs)) w:=by
 unfold execOp;simp only[ho,hx,Instr.loadAt,Instr.sureAddr,Sem.run_bind,Sem.run_pure,Result.andThen_ok,run_loadVar_row w g t ty cs fr d hg hu hd hi]

def Sq(x:S8):Array Value:= #[.int .u32 x.a.toNat, .int .u32 x.b.toNat, .int .u32 x.c.toNat, .int .u32 x.d.toNat, .int .u32 x.e.toNat, .int .u32 x.f.toNat, .int .u32 x.g.toNat, .int .u32 x.h.toNat]
theorem LC(t:ByteArray)(k:Nat)(h:64*k+64<=t.size):(t.extract (64*k) t.size).extract 0 64=t.extract (64*k) (64*k+64):=by rw[ByteArray.extract_extract];congr 1;omega
theorem Is(t:ByteArray)(k:Nat)(h:64*k+64<=t.size):(t.extract (64*k) t.size).extract 64 (t.extract (64*k) t.size).size=t.extract (64*(k+1)) t.size:=by rw[ByteArray.extract_extract];congr 1;simp;omega

theorem Fz(e:ByteArray)(n:Nat):(Bf e n).size=e.size+9+(119-e.size) % 64:=by
 have e1:(ByteArray.mk (Lib.repeatL [0] ((119-e.size) % 64)).toArray).size=(119-e.size) % 64:=by show(Lib.repeatL [0] ((119-e.size) % 64)).toArray.size=_;rw[tY,Lib.repeatL_length];simp
 have e2:(ByteArray.mk #[128]).size=1:=rfl;have e3:(ByteArray.mk (KE (n*8)).toArray).size=8:=by show(KE (n*8)).toArray.size=_;rw[tY,rE]
 unfold Bf;rw[NR,NR,NR,e1,e2,e3];omega
theorem LI(s:ByteArray)(h:0<s.size):s.toList.isEmpty=false:=by rw[<-decide_eq_emptyBytes];simp only[decide_eq_false_iff_not];intro e;rw[e]at h;exact absurd h (by decide)
theorem Ih(s:ByteArray)(h:s.size=0):s.toList.isEmpty=true:=by rw[<-decide_eq_emptyBytes];simp only[uD];exact ByteArray.size_eq_zero_iff.1 h
def Oa(w:World)(K:List UInt32)(t:ByteArray)(x:S8)(v:Value)(wr:World):Prop:=
 ∃k:Nat,64*k<=t.size/\v= .string (t.extract (64*k) t.size)/\ay wr w.heap.size (blocks K t x k).cells 292/\Below w.heap.size w wr

theorem vC{w w2:World}{K:List UInt32}{t r:ByteArray}{x0 x z:S8}{k:Nat}(hlt:64*k+64<=t.size)(hr:r=t.extract (64*k) t.size)(hx:x=blocks K t x0 k)(hz:z=yO K x (r.extract 0 64))(q0:ay w2 w.heap.size x.cells 292)(q3:Below w.heap.size w w2):
  Oa w K t x0 (.string (r.extract 64 r.size)) ((((((((w2.setCell ⟨w.heap.size,0,none⟩ (.int .u32 z.a.toNat)).setCell ⟨w.heap.size,1,none⟩ (.int .u32 z.b.toNat)).setCell ⟨w.heap.size,2,none⟩ (.int .u32 z.c.toNat)).setCell ⟨w.heap.size,3,none⟩ (.int .u32 z.d.toNat)).setCell ⟨w.heap.size,4,none⟩ (.int .u32 z.e.toNat)).setCell ⟨w.heap.size,5,none⟩ (.int .u32 z.f.toNat)).setCell ⟨w.heap.size,6,none⟩ (.int .u32 z.g.toNat)).setCell ⟨w.heap.size,7,none⟩ (.int .u32 z.h.toNat)):=by
 have hb:∀i:Nat,w.heap.size<=(⟨w.heap.size,i,none⟩:Addr).block:=λi=>aL _
 refine⟨k+1,by omega,by rw[hr,Is t k hlt], ?_,(((((((q3.setCell (hb _) _).setCell (hb _) _).setCell (hb _) _).setCell (hb _) _).setCell (hb _) _).setCell (hb _) _).setCell (hb _) _).setCell (hb _) _⟩;have e:blocks K t x0 (k+1)=z:=by rw[blocks, <-hx,hz,hr,LC t k hlt]
 rw[e];exact(((((((q0.set 0 _).set 1 _).set 2 _).set 3 _).set 4 _).set 5 _).set 6 _).set 7 _

def Qf(w:World)(R:Nat)(x:S8)(v i:Value)(wr:World):Prop:=
 ∃j:Nat,j<=8/\i= .int .i64 j/\v= .slice (some ⟨R,0,none⟩) (8*j) 64/\wr.ownsRow w.heap.size 5 1 (.slice (some ⟨R,0,none⟩) (8*j) 64) (8*j) (((x.list.take j).flatMap ov).map C8)/\Below w.heap.size w wr
def Qe(w:World)(R:Nat)(j:Nat)(bs:List UInt8)(y:UInt32)(v i:Value)(wr:World):Prop:=
 ∃m:Nat,m<=8/\i= .int .i64 (28-4*(m:Int))/\v= .slice (some ⟨R,0,none⟩) (8*j+m) 64/\wr.ownsRow w.heap.size 5 1 (.slice (some ⟨R,0,none⟩) (8*j+m) 64) (8*j+m) ((bs++(ov y).take m).map C8)/\Below w.heap.size w wr
theorem ow(y:UInt32):(ov y).length=8:=by simp[ov]
theorem Eo(bs:List UInt8)(y:UInt32)(m:Nat)(h:m<8):(bs++(ov y).take m).map C8++ [C8 (AQ.getD (PO y m) 0)]=(bs++(ov y).take (m+1)).map C8:=by rw[M1 (by rw[ow];exact h)];simp[ov]
theorem Jk(y:UInt32)(m:Nat):PO y m<16:=M3 _ (by decide)
theorem Md(y:UInt32)(m:Nat)(c:Int)(h:c=((y.toNat / 2 ^ (28-4*m):Nat):Int)):bits BinOp.and IntKind.u32 c 15=(PO y m:Int):=by
 have e:y.toNat / 2 ^ (28-4*m)<4294967296:=Nat.lt_of_le_of_lt (Nat.div_le_self _ _) y.toNat_lt;rw[h];unfold PO;generalize y.toNat / 2 ^ (28-4*m)=q at*
 have:=uI (UInt32.ofNat q) 15;rw[UInt32.toNat_ofNat_of_lt' e]at this;rw[show((15:UInt32).toNat:Int)=15 from rfl]at this;rw[this,UInt32.toNat_and,UInt32.toNat_ofNat_of_lt' e];rw[show(15:UInt32).toNat=2 ^ 4-1 from rfl,Nat.and_two_pow_sub_one_eq_mod]
theorem LN(q:Nat)(h:q<16):(({data:= #[48,49,50,51,52,53,54,55,56,57,97,98,99,100,101,102]}:ByteArray)[q]'h)=AQ.getD q 0:=by
 have:∀q (h:q<16),(({data:= #[48,49,50,51,52,53,54,55,56,57,97,98,99,100,101,102]}:ByteArray)[q]'h)=AQ.getD q 0:=by decide
 exact this q h
theorem JA:∃i,Tryz.prog.info? 5=some i/\i.size=1:=by
 have h:(Tryz.prog.info? 5).map (·.size)=some 1:=by kernel_rfl
 cases hi:Tryz.prog.info? 5 with
 |none=>rw[hi]at h;cases h
 |some i=>rw[hi]at h;exact⟨i,rfl,by simpa using h⟩

set_option maxHeartbeats 1000000 in
theorem DN(K:List UInt32)(t:ByteArray)(w:World)(ht:t.size<140737488355328)(hK:∀i,i<64->w.cell? ⟨0,i,none⟩=some (.int .u32 (K.getD i 0).toNat)):
  Calls Tryz.prog 138 #[.string t] w λr w'=>r= .returned (.string (uB K t))/\Below w.heap.size w w':=by
 have HK:=h_ hK;clear hK;go_enter Tryz.func138,Tryz.ntmps138;go_wp2_with fail
 go_loopw [4] (λv wr=>Oa w K t H0 v wr) (λv _=>xn v)
 case atStart=>
  refine⟨0,by omega,by simp,ay.made rfl rfl,(Below.refl _ _).alloc (aL _) _⟩
 case round=>
  obtain⟨k,hk,rfl,hB,hbl⟩:=hrel;by_cases hlt:64*k+64<=t.size
  ·obtain⟨r,hr⟩:=x_ (t.extract (64*k) t.size)
   have hr1:64<=r.size:=by rw[hr];simp;omega
   have hr2:r.size<=t.size:=by rw[hr];simp
   rw[<-hr];have HR:=h_ hr;clear hr;go_wp2_with fail;obtain⟨x,hx⟩:=x_ (blocks K t H0 k)
   rw[<-hx]at hB;have HX:=h_ hx;clear hx;have hKr:∀i,i<64->wr.cell? ⟨0,i,none⟩=some (.int .u32 (K.getD i 0).toNat):=λi hi=>by
    rw[hbl.cell (p:=⟨0,i,none⟩) (World.block_lt_of_cell? w _ (HK.out i hi))];exact HK.out i hi
   have HKR:=h_ hKr;clear hKr;generalize ha:Act.mk _ _=a;have sz:a.tmps.size=52:=by rw[<-ha];rfl
   have s3:a.tmps[3]'(by omega)= .pointer (some ⟨w.heap.size,0,none⟩):=by subst ha;rfl
   have s4:a.tmps[4]'(by omega)= .string r:=by subst ha;rfl
   have HA:=h_ ha;clear ha;refine Free.ai 4 [(3, .det (.agg (Sq (yO K x (r.extract 0 64)))))] (λw2=>ay w2 w.heap.size x.cells 292/\∀i,i<64->w2.cell? ⟨0,i,none⟩=some (.int .u32 (K.getD i 0).toNat)) (by kernel_rfl) (by kernel_rfl) ?_ ⟨hB,HKR.out⟩ (λ_ _ h g=>⟨h.1.below g h.1.lt,λi hi=>dJ (h.2 i hi) g⟩) ?_
   ·intro j mk r hf;simp only[Free.find]at hf
    repeat' split at hf
    all_goals (first|cases hf|skip)
   ·simp only[eJ,dT];iterate 4 (first|(apply Free.ae rfl rfl;(intro w' ⟨hb1,hb2⟩ hA;exact nf rfl (by simp[Act.eval,s3,sz]) hb1 Tryz.underlying292 rfl (by kernel_rfl)))|(apply Free.aC rfl rfl;(intro w' ⟨hb1,hb2⟩ hA;refine Free.au (f:=201) (args:= #[.agg x.cells.toArray, .string (r.extract 0 64)]) (by clear hb2;go_simp) ?_;refine(vm x K (r.extract 0 64) (by simp;omega) _ hb2).mono ?_;rintro e w2 ⟨rfl,hb3⟩;exact⟨_,rfl,hb3,rfl⟩))|(apply Free.ae rfl rfl;(intro w' ⟨hb1,hb2⟩ hA;clear hA hb2;go_light;go_simp<;>rfl)))
    apply Free.ax;intro w2 _ hg _;have hg':=qh hg;have q0:=hB.below hg' hB.lt;have q3:Below w.heap.size w w2:=hbl.trans (hg'.mono hbl.size);obtain⟨z,hz⟩:=x_ (yO K x (r.extract 0 64))
    rw[<-hz];have HZ:=h_ hz;clear hg hg' s3 s4 sz hz;have c0:=q0.ag 0 _ rfl;have c1:=q0.ag 1 _ rfl;have c2:=q0.ag 2 _ rfl;have c3:=q0.ag 3 _ rfl;have c4:=q0.ag 4 _ rfl;have c5:=q0.ag 5 _ rfl;have c6:=q0.ag 6 _ rfl;have c7:=q0.ag 7 _ rfl;have f0:=q0.frozen 0;have f1:=q0.frozen 1;have f2:=q0.frozen 2;have f3:=q0.frozen 3;have f4:=q0.frozen 4;have f5:=q0.frozen 5;have f6:=q0.frozen 6;have f7:=q0.frozen 7;simp only[fm,fo,Sq];obtain rfl:=HA.out
    go_wp2
    go_roundw
    case rel=>
     go_light;exact vC hlt HR.out HX.out HZ.out q0 q3
    case measure=>simp[xn];omega
  ·have hkk:k=t.size / 64:=by omega
   obtain⟨r,hr⟩:=x_ (t.extract (64*k) t.size)
   have hr1:r.size<64:=by rw[hr];simp;omega
   rw[<-hr];have HR:=h_ hr;have HKK:=h_ hkk;clear hr hkk hlt;have hd13:decide ((64:Int)<=(r.size:Int))=false:=by simp;omega
   go_wp2_with (go_at_call 202;refine(Bg r t.size _ hr1 (by omega)).mono ?_;rintro e w1 ⟨rfl,hw1⟩)
   clear hd13;obtain⟨p,hp⟩:=x_ (Bf r t.size)
   have hp0:=Fz r t.size;rw[<-hp]at hp0⊢;have hp1:p.size<=128:=by omega
   have HP0:Hid (p.size % 64=0):=by show p.size % 64=0;omega
   clear hp0;have HP:=h_ hp;clear hp;obtain⟨x1,hx1⟩:=x_ (blocks K t H0 k)
   rw[<-hx1]at hB;have HX1:=h_ hx1;clear hx1;have hB':=hB.below hw1 hB.lt;have hbl':Below w.heap.size w w1:=hbl.trans (hw1.mono hbl.size);clear hB hbl hw1
   go_loopw [4] (λv wr=>Oa w K p x1 v wr) (λv _=>xn v)
   case atStart=>exact⟨0,by omega,by simp,hB',hbl'⟩
   case round=>
    clear hB' hbl' hr1;clear hk;obtain⟨wo,rfl⟩:=x_ (k:Nat)
    obtain⟨k,hk,rfl,hB,hbl⟩:=hrel;by_cases hlt:64*k+64<=p.size
    ·obtain⟨r,hr⟩:=x_ (p.extract (64*k) p.size)
     have hr1:64<=r.size:=by rw[hr];simp;omega
     have hr2:r.size<=p.size:=by rw[hr];simp
     have hr3:(64:Int)<=(r.size:Int):=by omega
     rw[<-hr];have HR:=h_ hr;clear hr;have hne:=LI r (by omega);go_wp2_with fail;obtain⟨x,hx⟩:=x_ (blocks K p x1 k)
     rw[<-hx]at hB;have HX:=h_ hx;clear hx;have hKr:∀i,i<64->wr.cell? ⟨0,i,none⟩=some (.int .u32 (K.getD i 0).toNat):=λi hi=>by
      rw[hbl.cell (p:=⟨0,i,none⟩) (World.block_lt_of_cell? w _ (HK.out i hi))];exact HK.out i hi
     have HKR:=h_ hKr;clear hKr;generalize ha:Act.mk _ _=a;have sz:a.tmps.size=52:=by rw[<-ha];rfl
     have s3:a.tmps[3]'(by omega)= .pointer (some ⟨w.heap.size,0,none⟩):=by subst ha;rfl
     have s4:a.tmps[4]'(by omega)= .string r:=by subst ha;rfl
     have HA:=h_ ha;clear ha;refine Free.ai 4 [(3, .det (.agg (Sq (yO K x (r.extract 0 64)))))] (λw2=>ay w2 w.heap.size x.cells 292/\∀i,i<64->w2.cell? ⟨0,i,none⟩=some (.int .u32 (K.getD i 0).toNat)) (by kernel_rfl) (by kernel_rfl) ?_ ⟨hB,HKR.out⟩ (λ_ _ h g=>⟨h.1.below g h.1.lt,λi hi=>dJ (h.2 i hi) g⟩) ?_
     ·intro j mk r hf;simp only[Free.find]at hf
      repeat' split at hf
      all_goals (first|cases hf|skip)
     ·simp only[eJ,dT];iterate 4 (first|(apply Free.ae rfl rfl;(intro w' ⟨hb1,hb2⟩ hA;exact nf rfl (by simp[Act.eval,s3,sz]) hb1 Tryz.underlying292 rfl (by kernel_rfl)))|(apply Free.aC rfl rfl;(intro w' ⟨hb1,hb2⟩ hA;refine Free.au (f:=201) (args:= #[.agg x.cells.toArray, .string (r.extract 0 64)]) (by clear hb2;go_simp) ?_;refine(vm x K (r.extract 0 64) (by simp;omega) _ hb2).mono ?_;rintro e w2 ⟨rfl,hb3⟩;exact⟨_,rfl,hb3,rfl⟩))|(apply Free.ae rfl rfl;(intro w' ⟨hb1,hb2⟩ hA;clear hA hb2;go_light;go_simp<;>rfl)))
      apply Free.ax;intro w2 _ hg _;have hg':=qh hg;have q0:=hB.below hg' hB.lt;have q3:Below w.heap.size w w2:=hbl.trans (hg'.mono hbl.size);obtain⟨z,hz⟩:=x_ (yO K x (r.extract 0 64))
      rw[<-hz];have HZ:=h_ hz;clear hg hg' s3 s4 sz hz;have c0:=q0.ag 0 _ rfl;have c1:=q0.ag 1 _ rfl;have c2:=q0.ag 2 _ rfl;have c3:=q0.ag 3 _ rfl;have c4:=q0.ag 4 _ rfl;have c5:=q0.ag 5 _ rfl;have c6:=q0.ag 6 _ rfl;have c7:=q0.ag 7 _ rfl;have f0:=q0.frozen 0;have f1:=q0.frozen 1;have f2:=q0.frozen 2;have f3:=q0.frozen 3;have f4:=q0.frozen 4;have f5:=q0.frozen 5;have f6:=q0.frozen 6;have f7:=q0.frozen 7;simp only[fm,fo,Sq];obtain rfl:=HA.out
      go_wp2
      go_roundw
      case rel=>
       go_light;exact vC hlt HR.out HX.out HZ.out q0 q3
      case measure=>simp[xn];omega
    ·have hkk:k=p.size / 64:=by omega
     have hpe:(p.extract (64*k) p.size).size=0:=by have:=HP0.out;simp;omega
     have hne:=Ih _ hpe;have HKP:=h_ hkk;clear hkk hpe hlt hk;obtain⟨x,hx⟩:=x_ (blocks K p x1 k)
     rw[<-hx]at hB;have HX:=h_ hx;clear hx;obtain⟨e,he⟩:=x_ (p.extract (64*k) p.size)
     rw[<-he]at hne⊢;have HE:=h_ he;clear he;have hmk:∀w:World,(Instr.makeSlice 117 (.int .i64 0) (.int .i64 64)).run Tryz.prog w= .ok (.slice (some ⟨w.heap.size,0,none⟩) 0 64) (w.alloc (.cells (Array.replicate 64 (.int .u8 0)) 5)):=λ_=>by kernel_rfl
     have G0:Hid (∀o,(wr.alloc o).heap[w.heap.size]? =some (.cells #[.int .u32 x.a.toNat, .int .u32 x.b.toNat, .int .u32 x.c.toNat, .int .u32 x.d.toNat, .int .u32 x.e.toNat, .int .u32 x.f.toNat, .int .u32 x.g.toNat, .int .u32 x.h.toNat] 292 (0,0))):=λo=>hB.alloc o
     go_wp2_with (refine wpList_load_row rfl 292 _ rfl _ rfl 292 _ (0,0) _ (G0.out _) Tryz.underlying292 rfl (by kernel_rfl) ?_)
     obtain⟨R,hR⟩:=x_ wr.heap.size
     have hR1:w.heap.size<R:=by rw[hR];exact hB.lt
     have hown0:(wr.alloc (.cells (Array.replicate 64 (.int .u8 0)) 5)).ownsRow w.heap.size 5 1 (.slice (some ⟨R,0,none⟩) 0 64) 0 []:=by rw[hR];exact World.ownsRow_made wr _ 64 (by omega) (by unfold maxLen;omega) (by simp)
     rw[<-hR];have hbl1:=hbl.alloc hbl.size (.cells (Array.replicate 64 (.int .u8 0)) 5);clear hB hbl hmk G0 hR
     go_loopw [5,34] (λv i wr=>Qf w R x v i wr) (λ_ i _=>8- (intOf i).toNat)
     case atStart=>exact⟨0,by omega,rfl,rfl,hown0,hbl1⟩
     case round=>
      clear hown0 hbl1;obtain⟨j,hj,rfl,rfl,hown,hbl⟩:=hrel;by_cases hlt:j<8
      ·have hidx:∀wx:World,(Instr.index 292 (.agg #[.int .u32 x.a.toNat, .int .u32 x.b.toNat, .int .u32 x.c.toNat, .int .u32 x.d.toNat, .int .u32 x.e.toNat, .int .u32 x.f.toNat, .int .u32 x.g.toNat, .int .u32 x.h.toNat]) (.int .i64 j)).run Tryz.prog wx= .ok (.int .u32 (x.list.getD j 0).toNat) wx:=λwx=>QP (x.list.map W).toArray j (.int .u32 (x.list.getD j 0).toNat) (by
        rw[List.getElem?_toArray,mx,wM x j hlt];rfl) hlt wx
       obtain⟨y,hy⟩:=x_ (x.list.getD j 0)
       rw[<-hy]at hidx;have HY:=h_ hy;clear hy;have hd35:decide ((j:Int)<8)=true:=by simp;omega
       go_wp2_with fail;clear hidx hd35;obtain⟨bs,hbs⟩:=x_ ((x.list.take j).flatMap ov)
       rw[<-hbs]at hown;have HBS:=h_ hbs;clear hbs;obtain⟨wo,rfl⟩:=x_ (wr:World)
       go_loopw [5,8] (λv i wr=>Qe w R j bs y v i wr) (λ_ i _=>(4+intOf i).toNat)
       case atStart=>exact⟨0,by omega,rfl,rfl,by simpa using hown,hbl⟩
       case round=>
        clear hown hbl;obtain⟨m,hm,rfl,rfl,hown,hbl⟩:=hrel;by_cases hlm:m<8
        ·have i1:(0:Int)<=28-4*(m:Int):=by omega
         have i2:(28-4*(m:Int)).toNat=28-4*m:=by omega
         have i3:(m:Int)<=7:=by omega
         have hq:=Md y m _ (show((y.toNat:Int) / 2 ^ (28-4*m))=_ by norm_cast);have hq1:=Jk y m;obtain⟨q,eq⟩:=x_ (PO y m)
         rw[<-eq]at hq hq1;have HQ:=h_ eq;clear eq;have hq2:(q:Int)<16:=by omega
         obtain⟨d,ed⟩:=x_ (AQ.getD q 0)
         have hh:=LN q hq1;rw[<-ed]at hh;have HD:=h_ ed;clear ed;obtain⟨cs,ecs⟩:=x_ ((bs++(ov y).take m).map C8)
         rw[<-ecs]at hown;have HCS:=h_ ecs;clear ecs;obtain⟨i0,hi0,hi1⟩:=JA;have hlw:=hbl.size;go_wp2_with (at_builtin;refine wpList_append_fits _ rfl _ _ 117 rfl w.heap.size 5 i0 1 Tryz.underlying117 hi0 hi1 R (8*j+m) 64 cs rfl (hown.alloc _) ⟨wr.heap.size,0,none⟩ 1 1 [.int .u8 d.toNat] rfl rfl ?c1 ?c2 (by omega) ?_)
         case c1=>exact cell_one_new _ _ _
         case c2=>simp[Value.oneCell']
         intro w3 hown3 hgr3
         go_wp2
         go_roundw
         case rel=>
          go_light;have key:Qe w R j bs y (.slice (some ⟨R,0,none⟩) (8*j+m+1) 64) (.int .i64 (28-4*(m:Int)-4)) w3:=by
           refine⟨m+1,by omega,by congr 1;omega,by rw[Nat.add_assoc], ?_, ?_⟩
           ·rw[<-Eo bs y m hlm, <-HCS.out, <-HQ.out, <-HD.out, <-Nat.add_assoc];exact hown3
           ·exact(hbl.alloc hlw _).grown hgr3 (by simp;omega) (λk hk=>by cases hk;omega)
          first|exact key|((repeat apply Exists.intro);exact⟨key,rfl⟩)
         case measure=>simp[intOf];omega
        ·obtain rfl:m=8:=by omega
         clear hlm hm
         go_wp2
         go_roundw
         case rel=>
          go_light;have key:Qf w R x (.slice (some ⟨R,0,none⟩) (8*j+8) 64) (.int .i64 (↑j+1)) wr:=by
           refine⟨j+1,by omega,by go_num,by congr 1, ?_,hbl⟩;have e:(x.list.take (j+1)).flatMap ov=bs++(ov y).take 8:=by
            rw[M1 (by simpa[S8.list]using hlt),DU, <-HBS.out,np (by rw[ow];omega)]
            have:x.list[j]'(by simpa[S8.list]using hlt)=y:=by rw[HY.out,BX,eH (by simpa[S8.list]using hlt)];rfl
            rw[this];simp
           rw[e,show 8*(j+1)=8*j+8 by omega];exact hown
          first|exact key|((repeat apply Exists.intro);exact⟨key,rfl⟩)
         case measure=>simp[intOf];omega
      ·obtain rfl:j=8:=by omega
       clear hlt hj;have hL:(x.list.take 8).flatMap ov=lq x:=by rw[np (by simp[S8.list])];rfl
       rw[hL]at hown;have hlen:(lq x).length=64:=by simp[lq,S8.list,ow]
       obtain⟨_,hown2⟩:=hown;rcases hown2 with⟨h1,_⟩|⟨g,cap,cur,h1,_,hcur,_,_,_,htk⟩
       ·cases h1
       ·cases h1
        have hcv':(convert 117 9 (.slice (some ⟨R,0,none⟩) 64 64)).run Tryz.prog wr= .ok (.string ⟨(lq x).toArray⟩) wr:=by
         have:=sq (P:=Tryz.prog) (cap:=64) (lq x) Tryz.underlying117 Tryz.underlying5 Tryz.underlying9 (show ay wr R cur.toList 5 by unfold ay;simpa using hcur) (λj hj=>by
          have h2:(cur.toList.take (8*8*1))[j]? =((lq x).map C8)[j]? :=by rw[htk]
          rw[Sj (by omega),mx,eH hj]at h2;exact h2)
         rw[hlen]at this;exact this
        clear hcur htk hL hlen
        go_wp2
        go_ret;exact⟨by rw[uB, <-HKK.out, <-HR.out, <-HP.out, <-HKP.out, <-HX1.out, <-HX.out];rfl,hbl⟩
def n9(c:UInt8):Prop:=(48<=c.toNat/\c.toNat<=57)\/(97<=c.toNat/\c.toNat<=102)
def hv(c:UInt8):Nat:=if 97<=c.toNat then c.toNat-87 else c.toNat-48
def num(l:List UInt8):Nat:=l.foldl (λn c=>n*16+hv c) 0
theorem IM(q:Nat)(h:q<16):n9 (AQ.getD q 0):=by
 have:∀q,q<16->n9 (AQ.getD q 0):=by unfold n9;decide
 exact this q h
theorem Fb(x:S8):∀c∈lq x,n9 c:=by intro c hc;unfold lq at hc;obtain⟨y,_,hy⟩:=PT.1 hc;unfold ov at hy;obtain⟨m,_,rfl⟩:=nS.1 hy;exact IM _ (Jk y m)
theorem Fc(x:S8):(lq x).length=64:=by simp[lq,S8.list,ow]
theorem QM{c:UInt8}(h:n9 c):hv c<16:=by unfold hv;unfold n9 at h;split<;>omega
theorem yT(l:List UInt8)(k:Nat)(h:k<l.length):num (l.take (k+1))=num (l.take k)*16+hv l[k]:=by rw[M1 h,num,PA];rfl
theorem OW(l:List UInt8)(h:∀c∈l,n9 c)(k:Nat)(hk:k<=l.length):num (l.take k)<16 ^ k:=by
 induction k with
 |zero=>simp[num]
 |succ k ih=>have:=ih (by omega);have h2:=QM (h l[k] (KM _));rw[yT l k (by omega),GL];omega
def tM(K:List UInt32)(t:ByteArray):List UInt8:=(uB K t).data.toList
theorem DM(K:List UInt32)(t:ByteArray):∃x,tM K t=lq x:=⟨_,by unfold tM uB;rfl⟩
theorem DL(K:List UInt32)(t:ByteArray):uB K t=⟨(tM K t).toArray⟩:=by unfold tM;simp
theorem zK(K:List UInt32)(t:ByteArray):(tM K t).length=64:=by obtain⟨x,h⟩:=DM K t;rw[h,Fc]
theorem Kf(K:List UInt32)(t:ByteArray):∀c∈tM K t,n9 c:=by obtain⟨x,h⟩:=DM K t;rw[h];exact Fb x
def number(K:List UInt32)(t:ByteArray)(m:Int):Int:=if m<1 then 0 else(num ((tM K t).take 15):Int) % m

theorem Le(s:ByteArray)(w:World)(h:15<=s.size):∃cp ob,(convert 9 117 (.string (s.extract 0 15))).run Tryz.prog w= .ok (.slice (some ⟨w.heap.size,0,none⟩) 15 cp) (w.drew.alloc ob)/\
  ∀k,k<15->(w.alloc ob).cell? ⟨w.heap.size,k,none⟩=some (.int .u8 (s.data.toList.getD k 0).toNat):=by
 have hcv:=run_bytes_of_string (P:=Tryz.prog) w 9 117 5 (s.extract 0 15) Tryz.underlying9 Tryz.underlying117 Tryz.underlying5;have hl15:(s.extract 0 15).size=15:=by simp;omega
 rw[hl15]at hcv;refine⟨_,_,hcv,λk hk=> ?_⟩;rw[World.cell?_alloc_mark,bytesRow,Array.getElem?_append_left (by simp;omega),Array.getElem?_map];have hk2:k<s.data.size:=by show k<s.size;omega
 simp[Array.getElem?_extract];exact⟨s.data[k],⟨by show k<min 15 s.data.size;omega,by simp⟩,by rw[Si hk2];rfl⟩
set_option maxHeartbeats 1000000 in
theorem sW(K:List UInt32)(t:ByteArray)(m:Int)(w:World)(ht:t.size<140737488355328)(hm:m<=9223372036854775807)(hK:∀i,i<64->w.cell? ⟨0,i,none⟩=some (.int .u32 (K.getD i 0).toNat)):
  Calls Tryz.prog 92 #[.string t, .int .i64 m] w λr w'=>r= .returned (.int .i64 (number K t m))/\Below w.heap.size w w':=by
 by_cases h1:m<1
 ·go_enter Tryz.func92,Tryz.ntmps92;go_wp2_with fail;go_ret;exact⟨by rw[number,if_pos h1];rfl,Below.refl _ _⟩
 ·have hsum:=DN K t w ht hK;clear hK;have hlen:=zK K t;have hsz:(uB K t).size=64:=by rw[DL];show(tM K t).toArray.size=64;simp[hlen]
  obtain⟨s,hs⟩:=x_ (uB K t)
  have hsz1:64<=s.size:=by rw[hs];omega
  have hsz2:s.size<=64:=by rw[hs];omega
  rw[<-hs]at hsum;have HSUM:=h_ hsum;have HS:=h_ hs;have HLEN:=h_ hlen;clear hsz hlen hs hsum;have hs15:(15:Int)<=(s.size:Int):=by omega
  have hm1:1<=m:=by omega
  go_enter Tryz.func92,Tryz.ntmps92;go_wp2_with fail;refine HSUM.out.mono ?_;rintro e w1 ⟨rfl,hb1⟩;obtain⟨cp,ob,hcv,hcell⟩:=Le s w1 (by omega);have HCL:=h_ hcell;clear hcell;go_wp2_with fail;have hL:s.data.toList=tM K t:=by rw[HS.out];rfl
  rw[hL]at HCL;obtain⟨L,eL⟩:=x_ (tM K t)
  have hex:=Kf K t;rw[<-eL]at HCL hex HLEN;have HL:=h_ eL;have HX:=h_ hex;clear hL eL hex
  go_loop [5,16] (λn i=> ∃k:Nat,k<=15/\i= .int .i64 k/\n= .int .i64 (num (L.take k):Nat)) (λ_ i=>15- (intOf i).toNat)
  case atStart=>exact⟨0,by omega,rfl,rfl⟩
  case round=>
   obtain⟨k,hk,rfl,rfl⟩:=hrel;by_cases hlt:k<15
   ·have hc:=HCL.out k hlt;have hkl:k<L.length:=by have:=HLEN.out;omega
    have hx:=HX.out L[k] (KM _);have hsn:=yT L k hkl;have hnl:=OW L HX.out k (by omega);have hnp:16 ^ k<=16 ^ 14:=Nat.pow_le_pow_right (by omega) (by omega);have hgd:L.getD k 0=L[k]:=by rw[BX,eH hkl];rfl
    rw[hgd]at hc;obtain⟨c,ec⟩:=x_ (L[k])
    rw[<-ec]at hc hx hsn;obtain⟨n,en⟩:=x_ (num (L.take k))
    rw[<-en]at hsn hnl⊢;have hn1:n<72057594037927936:=by
      have:(16:Nat) ^ 14=72057594037927936:=by decide
      omega
    have HSN:=h_ hsn;clear ec en hsn hgd hnl hnp hkl;unfold n9 at hx;have hcb:c.toNat<256:=c.toNat_lt;by_cases h97:97<=c.toNat
    ·have hhv:hv c=c.toNat-87:=by unfold hv;rw[if_pos h97]
     have HHV:=h_ hhv;clear hhv;have hc2:c.toNat<=102:=by omega
     clear hx
     go_wp2
     go_round
     case rel=>exact⟨k+1,by omega,by go_num,by rw[HSN.out,HHV.out];congr 1;omega⟩
     case measure=>simp[intOf];omega
    ·have hhv:hv c=c.toNat-48:=by unfold hv;rw[if_neg h97]
     have HHV:=h_ hhv;clear hhv;have hc2:c.toNat<=57:=by omega
     have hc3:48<=c.toNat:=by omega
     clear hx
     go_wp2
     go_round
     case rel=>exact⟨k+1,by omega,by go_num,by rw[HSN.out,HHV.out];congr 1;omega⟩
     case measure=>simp[intOf];omega
   ·obtain rfl:k=15:=by omega
    go_wp2
    go_ret;refine⟨?_, ?_⟩
    ·rw[number,if_neg (by omega), <-HL.out];rfl
    ·exact(hb1.alloc hb1.size ob).drew
def KC:List UInt32:= [1116352408,1899447441,3049323471,3921009573,961987163,1508970993,2453635748,2870763221,3624381080,310598401,607225278,1426881987,1925078388,2162078206,2614888103,3248222580,3835390401,4022224774,264347078,604807628,770255983,1249150122,1555081692,1996064986,2554220882,2821834349,2952996808,3210313671,3336571891,3584528711,113926993,338241895,666307205,773529912,1294757372,1396182291,1695183700,1986661051,2177026350,2456956037,2730485921,2820302411,3259730800,3345764771,3516065817,3600352804,4094571909,275423344,430227734,506948616,659060556,883997877,958139571,1322822218,1537002063,1747873779,1955562222,2024104815,2227730452,2361852424,2428436474,2756734187,3204031479,3329325298]
def GV(w:World):Prop:=∀i,i<64->w.cell? ⟨0,i,none⟩=some (.int .u32 (KC.getD i 0).toNat)
theorem GV.below{w w':World}{B:Nat}(h:GV w)(hb:Below B w w')(hB:w.heap.size<=B):GV w':=λi hi=>by
 rw[hb.cell (p:=⟨0,i,none⟩) (by have:=World.block_lt_of_cell? w _ (h i hi);omega)];exact h i hi
open Go.Sg
def dS(b n:Int):Int:=if 1<=b/\b<=2147483646/\0<=n then(pw b.toNat n.toNat:Int)else 0
theorem iw{b n:Int}(h1:1<=b)(h2:b<=2147483646)(h3:0<=n):dS b n=(pw b.toNat n.toNat:Int):=by unfold dS;rw[if_pos ⟨h1,h2,h3⟩]
theorem vx{b n:Int}(h: ¬(1<=b/\b<=2147483646/\0<=n)):dS b n=0:=by unfold dS;rw[if_neg h]

theorem vp(a:Nat)(ha:a<9223372036854775808):(BitVec.ofInt 64 (a:Int)).toNat=a:=by rw[BitVec.ofInt_natCast,BitVec.toNat_ofNat];exact PD (by omega)
theorem yE(a b:Nat)(ha:a<9223372036854775808)(hb:b<9223372036854775808):bits .and .i64 (a:Int) (b:Int)=((a&&&b:Nat):Int):=by have hx:a&&&b<2 ^ 63:=Nat.and_lt_two_pow _ (by omega);show IntKind.i64.wrap ((BitVec.ofInt 64 (a:Int)&&&BitVec.ofInt 64 (b:Int)).toNat:Int)=_;rw[BitVec.toNat_and,vp a ha,vp b hb,IntKind.wrap_i64];omega
theorem Lb(m:Nat)(h:m<9223372036854775808):bits BinOp.and IntKind.i64 (m:Int) 1=((m % 2:Nat):Int):=by rw[show(1:Int)=((1:Nat):Int) from rfl,yE m 1 h (by decide),Nat.and_one_is_mod]
theorem uv(x:Nat)(h:x<2 ^ 64):x<2 ^ Lib.bitLen x:=by
 by_cases h0:x=0
 ·subst h0;exact Nat.two_pow_pos _
 ·exact(Lib.bitLenAux_bounds 64 x h h0).2.2
theorem bitLen_le(x:Nat)(h:x<2 ^ 63):Lib.bitLen x<=63:=by
 by_cases h0:x=0
 ·subst h0;decide
 ·have:=(Lib.bitLenAux_bounds 64 x (by omega) h0).2.1;refine Sh λhn=> ?_
  have h2:2 ^ 63<=2 ^ (Lib.bitLen x-1):=Nat.pow_le_pow_right (by omega) (by omega);unfold Lib.bitLen at h2;omega
theorem O6(b n i:Nat):pw b (n % 2 ^ (i+1))=if n / 2 ^ i % 2=1 then pw b (n % 2 ^ i)*pw b (2 ^ i) % gp else pw b (n % 2 ^ i):=by
 have e:n % 2 ^ (i+1)=n % 2 ^ i+2 ^ i*(n / 2 ^ i % 2):=by rw[GL,Nat.mod_mul]
 rw[e];rcases Nat.mod_two_eq_zero_or_one (n / 2 ^ i)with h|h
 ·rw[h,if_neg (by omega),Nat.mul_zero,KO]
 ·rw[h,if_pos rfl,KJ,nH]
theorem RE(b i:Nat):pw b (2 ^ (i+1))=pw b (2 ^ i)*pw b (2 ^ i) % gp:=by rw[<-nH,GL,Nat.mul_two]

theorem ze(a b:Int)(w:World)(ha0:0<=a)(ha:a<=2147483646)(hb0:0<=b)(hb:b<=2147483646):
  Calls Tryz.prog 90 #[.int .i64 a, .int .i64 b] w λe w'=>e= .returned (.int .i64 (a*b % 2147483647))/\w=w':=by
 have h1:0<=a*b:=Int.mul_nonneg ha0 hb0;have h2:a*b<=4611686009837453316:=by have:=Int.mul_le_mul ha hb hb0 (by omega);omega
 go_enter Tryz.func90,Tryz.ntmps90
 go_wp2
 go_ret;exact⟨rfl,rfl⟩
theorem kI(y:Int)(w:World)(h1:1<=y)(h2:y<=2147483646):Calls Tryz.prog 54 #[.int .i64 y] w λe w'=>e= .returned (.bool true)/\w=w':=by
 go_enter Tryz.func54,Tryz.ntmps54
 go_wp2
 go_ret;exact⟨rfl,rfl⟩
theorem AV(y:Int)(w:World)(h: ¬(1<=y/\y<=2147483646)):Calls Tryz.prog 54 #[.int .i64 y] w λe w'=>e= .returned (.bool false)/\w=w':=by
 by_cases h1:1<=y
 ·have h2: ¬y<=2147483646:=λh2=>h ⟨h1,h2⟩
  clear h;go_enter Tryz.func54,Tryz.ntmps54
  go_wp2
  go_ret;exact⟨rfl,rfl⟩
 ·clear h;go_enter Tryz.func54,Tryz.ntmps54
  go_wp2
  go_ret;exact⟨rfl,rfl⟩
theorem MJ(y:Int)(w:World)(h1:1<=y)(h2:y<=2147483645):Calls Tryz.prog 79 #[.int .i64 y] w λe w'=>e= .returned (.bool true)/\w=w':=by
 go_enter Tryz.func79,Tryz.ntmps79
 go_wp2
 go_ret;exact⟨rfl,rfl⟩
theorem Ph(y:Int)(w:World)(h: ¬(1<=y/\y<=2147483645)):Calls Tryz.prog 79 #[.int .i64 y] w λe w'=>e= .returned (.bool false)/\w=w':=by
 by_cases h1:1<=y
 ·have h2: ¬y<=2147483645:=λh2=>h ⟨h1,h2⟩
  clear h;go_enter Tryz.func79,Tryz.ntmps79
  go_wp2
  go_ret;exact⟨rfl,rfl⟩
 ·clear h;go_enter Tryz.func79,Tryz.ntmps79
  go_wp2
  go_ret;exact⟨rfl,rfl⟩
theorem LU(x:Int)(w:World)(h0:0<=x)(h1:x<=18446744073709551615):
  Calls Tryz.prog 91 #[.int .u64 x] w λe w'=>e= .returned (.int .i64 (Lib.bitLen x.toNat))/\w=w':=by
 go_enter Tryz.func91,Tryz.ntmps91;go_wp2_with (go_at_call 137;refine(Tryz.bits_Len64 _ _ h0 h1).mono ?_;rintro e w' ⟨rfl,rfl⟩)
 go_ret;exact⟨rfl,rfl⟩
def RP(b n:Nat)(x r i:Value):Prop:=∃k:Nat,k<=Lib.bitLen n/\i= .int .i64 k/\x= .int .i64 (pw b (2 ^ k):Nat)/\r= .int .i64 (pw b (n % 2 ^ k):Nat)
theorem mL(b n:Int)(w:World)(hn:n<=9223372036854775807):
  Calls Tryz.prog 55 #[.int .i64 b, .int .i64 n] w λe w'=>e= .returned (.int .i64 (dS b n))/\w=w':=by
 by_cases hk:1<=b/\b<=2147483646
 ·by_cases h3:n<0
  ·rw[vx (by omega)];go_enter Tryz.func55,Tryz.ntmps55;go_wp2_with (go_at_call 54;refine(kI _ _ hk.1 hk.2).mono ?_;rintro e w' ⟨rfl,rfl⟩)
   go_ret;exact⟨rfl,rfl⟩
  ·obtain⟨hb1,hb2⟩:=hk;have h4:0<=n:=by omega
   rw[iw hb1 hb2 h4];obtain⟨m,rfl⟩:∃m:Nat,n=m:=⟨n.toNat,by omega⟩
   obtain⟨c,rfl⟩:∃c:Nat,b=c:=⟨b.toNat,by omega⟩
   have hm:m<2 ^ 63:=by omega
   have hL:=bitLen_le m hm;have hLt:=uv m (by omega);have hcg:c<gp:=by unfold gp;omega
   have hst:RP c m (.int .i64 c) (.int .i64 1) (.int .i64 0):=⟨0,gu _,rfl,by rw[Nat.pow_zero,O8 c hcg],by rw[Nat.pow_zero,Nat.mod_one,Mw];rfl⟩
   have HST:=h_ hst;have HL:=h_ hLt;clear hst hLt hcg;simp only[tZ];have hlen:∀w,Calls Tryz.prog 91 #[.int .u64 (m:Int)] w λe w'=>e= .returned (.int .i64 (Lib.bitLen m))/\w=w':=λw=>LU m w (by omega) (by omega)
   obtain⟨L,eL⟩:=x_ (Lib.bitLen m)
   rw[<-eL]at hlen hL HL;have EL:=h_ eL;have HLEN:=h_ hlen;clear eL hlen;go_enter Tryz.func55,Tryz.ntmps55;go_wp2_with (first|(go_at_call 54;refine(kI _ _ hb1 hb2).mono ?_;rintro e w' ⟨rfl,rfl⟩)|(go_at_call 91;refine(HLEN.out _).mono ?_;rintro e w' ⟨rfl,rfl⟩))
   go_loop [0,6,18] (λx r i=>RP c m x r i) (λ_ _ i=>L- (intOf i).toNat)
   case atStart=>exact HST.out
   case round=>
    clear HST;obtain⟨k,hk,rfl,rfl,rfl⟩:=hrel;rw[<-EL.out]at hk;have hx:=tw c (2 ^ k);have hr:=tw c (m % 2 ^ k);unfold gp at hx hr;have hsq:=RE c k;have hbit:=O6 c m k;obtain⟨x,ex⟩:=x_ (pw c (2 ^ k))
    obtain⟨r,er⟩:=x_ (pw c (m % 2 ^ k))
    by_cases hlt:k<L
    ·rw[<-ex, <-er]at hbit⊢;rw[<-ex]at hsq hx;rw[<-er]at hr;have HSQ:=h_ hsq;have HBIT:=h_ hbit;clear hsq hbit ex er;have hb1:bits BinOp.and IntKind.i64 ((m:Int) / 2 ^ k) 1=((m / 2 ^ k % 2:Nat):Int):=by have:=Lb (m / 2 ^ k) (by have:=Nat.div_le_self m (2 ^ k);omega);rw[<-this];norm_cast
     have hcast:((m:Int) / 2 ^ k % 2)=((m / 2 ^ k % 2:Nat):Int):=by norm_cast
     by_cases hbt:m / 2 ^ k % 2=1
     ·have hbb:((m:Int) / 2 ^ k % 2==1)=true:=by rw[hcast,hbt];rfl
      have HB:=h_ hbt;clear hbt hcast;go_wp2_with (go_at_call 90;refine(ze _ _ _ (by omega) (by omega) (by omega) (by omega)).mono ?_;rintro e w' ⟨rfl,rfl⟩)
      go_round
      case rel=>exact⟨k+1,by rw[<-EL.out];omega,by go_num,by rw[HSQ.out];rfl,by rw[HBIT.out,if_pos HB.out];rfl⟩
      case measure=>simp[intOf];omega
     ·have hbb:((m:Int) / 2 ^ k % 2==1)=false:=by rw[hcast,show m / 2 ^ k % 2=0 by omega];rfl
      have HB:=h_ hbt;clear hbt hcast;go_wp2_with (go_at_call 90;refine(ze _ _ _ (by omega) (by omega) (by omega) (by omega)).mono ?_;rintro e w' ⟨rfl,rfl⟩)
      go_round
      case rel=>exact⟨k+1,by rw[<-EL.out];omega,by go_num,by rw[HSQ.out];rfl,by rw[HBIT.out,if_neg HB.out]⟩
      case measure=>simp[intOf];omega
    ·obtain rfl:k=L:=by omega
     have hfin:r=pw c m:=by rw[er,PD HL.out]
     have HF:=h_ hfin;rw[<-ex, <-er];clear hfin hbit hsq ex er;go_wp2_with fail;go_ret;exact⟨by rw[HF.out];rfl,rfl⟩
 ·rw[vx (by omega)];go_enter Tryz.func55,Tryz.ntmps55;go_wp2_with (go_at_call 54;refine(AV _ _ hk).mono ?_;rintro e w' ⟨rfl,rfl⟩)
  go_ret;exact⟨rfl,rfl⟩
end Go.Proofs.YtkmbmfengcdmoaaGreatDoor
