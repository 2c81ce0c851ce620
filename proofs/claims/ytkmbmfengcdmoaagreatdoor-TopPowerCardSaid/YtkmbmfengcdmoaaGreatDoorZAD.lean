/- Package sign: Power, its closure, keyIs, secretIs: what they return for every number. -/
import Derived.Test.YtkmbmfengcdmoaaGreatDoorZAC
import Derived.Test.YtkmbmfengcdmoaaGreatDoorZAB
import Derived.Lib.ItoaNum
import Derived.Laws.BitsAllLaws
import Derived.Laws.BitsLemmas
set_option maxRecDepth 100000
set_option linter.all false
namespace Go.Proofs.YtkmbmfengcdmoaaGreatDoor
open Go.RowKit Go.W32 Go.ay

def blocks(K:List UInt32)(t:ByteArray)(x:S8):Nat->S8
 |0=>x
 |k+1=>yO K (blocks K t x k) (t.extract (64*k) (64*k+64))
def H0:S8:=⟨1779033703,3144134277,1013904242,2773480762,1359893119,2600822924,528734635,1541459225⟩
def AQ:List UInt8:= [48,49,50,51,52,53,54,55,56,57,97,98,99,100,101,102]
def PO(x:UInt32)(m:Nat):Nat:=x.toNat / 2 ^ (28-4*m) % 16
def ov(x:UInt32):List UInt8:=(List.range 8).map λm=>AQ.getD (PO x m) 0
def lq(x:S8):List UInt8:=x.list.flatMap ov
def uB(K:List UInt32)(t:ByteArray):ByteArray:=
 let p:=Bf (t.extract (64*(t.size / 64)) t.size) t.size
 ⟨(lq (blocks K p (blocks K t H0 (t.size / 64)) (p.size / 64))).toArray⟩
def xn:Value->Nat| .string s=>s.size|_=>0

theorem nf{P:Program}{o:Oper}{ρ:Operand->Value}{w:World}{ty:TypeId}{x:Operand}{g:Nat}{t:TypeId}{cs:Array Value}{a:Nat×Nat}{d:TypeDesc}(f:o.op= .load ty x)(i:ρ x= .pointer (some ⟨g,0,none⟩))(c:w.heap[g]? =some (.cells cs t a))
  (h:P.underlying ty=some d) (b:(match d with| .struct _| .array _ _=>true|_=>false)=true) (e:(P.info? ty).map (·.size)=some cs.size):(execOp ρ o).run P w= .ok (.value (.agg cs)) w:=by
 unfold execOp;simp only[f,i,Instr.loadAt,Instr.sureAddr,Sem.run_bind,Sem.run_pure,Result.andThen_ok,run_loadVar_row w g t ty cs a d c h b e]

def Sq(x:S8):Array Value:= #[.int .u32 x.a.toNat, .int .u32 x.b.toNat, .int .u32 x.c.toNat, .int .u32 x.d.toNat, .int .u32 x.e.toNat, .int .u32 x.f.toNat, .int .u32 x.g.toNat, .int .u32 x.h.toNat]
theorem LC(t:ByteArray)(k:Nat)(h:64*k+64<=t.size):(t.extract (64*k) t.size).extract 0 64=t.extract (64*k) (64*k+64):=by rw[ByteArray.extract_extract];congr 1;omega
theorem Is(t:ByteArray)(k:Nat)(h:64*k+64<=t.size):(t.extract (64*k) t.size).extract 64 (t.extract (64*k) t.size).size=t.extract (64*(k+1)) t.size:=by rw[ByteArray.extract_extract];congr 1;simp;omega

theorem Fz(e:ByteArray)(n:Nat):(Bf e n).size=e.size+9+(119-e.size) % 64:=by
 have a:(ByteArray.mk (Lib.repeatL [0] ((119-e.size) % 64)).toArray).size=(119-e.size) % 64:=by show(Lib.repeatL [0] ((119-e.size) % 64)).toArray.size=_;rw[tY,Lib.repeatL_length];simp
 have b:(ByteArray.mk #[128]).size=1:=rfl;have c:(ByteArray.mk (KE (n*8)).toArray).size=8:=by show(KE (n*8)).toArray.size=_;rw[tY,rE]
 unfold Bf;rw[NR,NR,NR,a,b,c];omega
theorem LI(s:ByteArray)(h:0<s.size):s.toList.isEmpty=false:=by rw[<-decide_eq_emptyBytes];simp only[decide_eq_false_iff_not];intro e;rw[e]at h;exact absurd h (by decide)
theorem Ih(s:ByteArray)(h:s.size=0):s.toList.isEmpty=true:=by rw[<-decide_eq_emptyBytes];simp only[uD];exact ByteArray.size_eq_zero_iff.1 h
def Oa(w:World)(K:List UInt32)(t:ByteArray)(x:S8)(v:Value)(wr:World):Prop:=
 ∃k:Nat,64*k<=t.size/\v= .string (t.extract (64*k) t.size)/\ay wr w.heap.size (blocks K t x k).cells 292/\Below w.heap.size w wr

theorem vC{w m:World}{K:List UInt32}{t r:ByteArray}{n x z:S8}{k:Nat}(l:64*k+64<=t.size)(o:r=t.extract (64*k) t.size)(p:x=blocks K t n k)(hz:z=yO K x (r.extract 0 64))(q:ay m w.heap.size x.cells 292)(s:Below w.heap.size w m):
  Oa w K t n (.string (r.extract 64 r.size)) ((((((((m.setCell ⟨w.heap.size,0,none⟩ (.int .u32 z.a.toNat)).setCell ⟨w.heap.size,1,none⟩ (.int .u32 z.b.toNat)).setCell ⟨w.heap.size,2,none⟩ (.int .u32 z.c.toNat)).setCell ⟨w.heap.size,3,none⟩ (.int .u32 z.d.toNat)).setCell ⟨w.heap.size,4,none⟩ (.int .u32 z.e.toNat)).setCell ⟨w.heap.size,5,none⟩ (.int .u32 z.f.toNat)).setCell ⟨w.heap.size,6,none⟩ (.int .u32 z.g.toNat)).setCell ⟨w.heap.size,7,none⟩ (.int .u32 z.h.toNat)):=by
 have j:∀i:Nat,w.heap.size<=(⟨w.heap.size,i,none⟩:Addr).block:=λi=>aL _
 refine⟨k+1,by omega,by rw[o,Is t k l], ?_,(((((((s.setCell (j _) _).setCell (j _) _).setCell (j _) _).setCell (j _) _).setCell (j _) _).setCell (j _) _).setCell (j _) _).setCell (j _) _⟩;have e:blocks K t n (k+1)=z:=by rw[blocks, <-p,hz,o,LC t k l]
 rw[e];exact(((((((q.set 0 _).set 1 _).set 2 _).set 3 _).set 4 _).set 5 _).set 6 _).set 7 _

def Qf(w:World)(R:Nat)(x:S8)(v i:Value)(wr:World):Prop:=
 ∃j:Nat,j<=8/\i= .int .i64 j/\v= .slice (some ⟨R,0,none⟩) (8*j) 64/\wr.ownsRow w.heap.size 5 1 (.slice (some ⟨R,0,none⟩) (8*j) 64) (8*j) (((x.list.take j).flatMap ov).map C8)/\Below w.heap.size w wr
def Qe(w:World)(R:Nat)(j:Nat)(bs:List UInt8)(y:UInt32)(v i:Value)(wr:World):Prop:=
 ∃m:Nat,m<=8/\i= .int .i64 (28-4*(m:Int))/\v= .slice (some ⟨R,0,none⟩) (8*j+m) 64/\wr.ownsRow w.heap.size 5 1 (.slice (some ⟨R,0,none⟩) (8*j+m) 64) (8*j+m) ((bs++(ov y).take m).map C8)/\Below w.heap.size w wr
theorem ow(y:UInt32):(ov y).length=8:=by simp[ov]
theorem Eo(a:List UInt8)(y:UInt32)(m:Nat)(h:m<8):(a++(ov y).take m).map C8++ [C8 (AQ.getD (PO y m) 0)]=(a++(ov y).take (m+1)).map C8:=by rw[M1 (by rw[ow];exact h)];simp[ov]
theorem Jk(y:UInt32)(m:Nat):PO y m<16:=M3 _ (by decide)
theorem Md(y:UInt32)(m:Nat)(c:Int)(h:c=((y.toNat / 2 ^ (28-4*m):Nat):Int)):bits BinOp.and IntKind.u32 c 15=(PO y m:Int):=by
 have e:y.toNat / 2 ^ (28-4*m)<4294967296:=Nat.lt_of_le_of_lt (Nat.div_le_self _ _) y.toNat_lt;rw[h];unfold PO;generalize y.toNat / 2 ^ (28-4*m)=q at*
 have:=uI (UInt32.ofNat q) 15;rw[UInt32.toNat_ofNat_of_lt' e]at this;rw[show((15:UInt32).toNat:Int)=15 from rfl]at this;rw[this,UInt32.toNat_and,UInt32.toNat_ofNat_of_lt' e];rw[show(15:UInt32).toNat=2 ^ 4-1 from rfl,Nat.and_two_pow_sub_one_eq_mod]
theorem LN(q:Nat)(h:q<16):(({data:= #[48,49,50,51,52,53,54,55,56,57,97,98,99,100,101,102]}:ByteArray)[q]'h)=AQ.getD q 0:=by
 have:∀q (h:q<16),(({data:= #[48,49,50,51,52,53,54,55,56,57,97,98,99,100,101,102]}:ByteArray)[q]'h)=AQ.getD q 0:=by decide
 exact this q h
theorem JA:∃i,Tryz.prog.info? 5=some i/\i.size=1:=by
 have h:(Tryz.prog.info? 5).map (·.size)=some 1:=by kernel_rfl
 cases hi:Tryz.prog.info? 5 with
 |none=>rw[hi]at h;cases h
 |some i=>rw[hi]at h;exact⟨i,rfl,by simpa using h⟩

set_option maxHeartbeats 1000000 in
theorem DN(K:List UInt32)(t:ByteArray)(w:World)(ht:t.size<140737488355328)(hK:∀i,i<64->w.cell? ⟨0,i,none⟩=some (.int .u32 (K.getD i 0).toNat)):
  Calls Tryz.prog 138 #[.string t] w λr w'=>r= .returned (.string (uB K t))/\Below w.heap.size w w':=by
 have HK:=h_ hK;clear hK;go_enter Tryz.func138,Tryz.ntmps138;go_wp2_with fail
 go_loopw [4] (λv wr=>Oa w K t H0 v wr) (λv _=>xn v)
 case atStart=>
  refine⟨0,by omega,by simp,ay.made rfl rfl,(Below.refl _ _).alloc (aL _) _⟩
 case round=>
  obtain⟨k,hk,rfl,A,l⟩:=hrel;by_cases u:64*k+64<=t.size
  ·obtain⟨r,B⟩:=x_ (t.extract (64*k) t.size)
   have J:64<=r.size:=by rw[B];simp;omega
   have jp:r.size<=t.size:=by rw[B];simp
   rw[<-B];have HR:=h_ B;clear B;go_wp2_with fail;obtain⟨x,G⟩:=x_ (blocks K t H0 k)
   rw[<-G]at A;have HX:=h_ G;clear G;have D:∀i,i<64->wr.cell? ⟨0,i,none⟩=some (.int .u32 (K.getD i 0).toNat):=λi I=>by
    rw[l.cell (p:=⟨0,i,none⟩) (World.block_lt_of_cell? w _ (HK.out i I))];exact HK.out i I
   have S:=h_ D;clear D;generalize ha:Act.mk _ _=a;have sz:a.tmps.size=52:=by rw[<-ha];rfl
   have s3:a.tmps[3]'(by omega)= .pointer (some ⟨w.heap.size,0,none⟩):=by subst ha;rfl
   have s4:a.tmps[4]'(by omega)= .string r:=by subst ha;rfl
   have HA:=h_ ha;clear ha;refine Free.ai 4 [(3, .det (.agg (Sq (yO K x (r.extract 0 64)))))] (λH=>ay H w.heap.size x.cells 292/\∀i,i<64->H.cell? ⟨0,i,none⟩=some (.int .u32 (K.getD i 0).toNat)) (by kernel_rfl) (by kernel_rfl) ?_ ⟨A,S.out⟩ (λ_ _ h g=>⟨h.1.below g h.1.lt,λi I=>dJ (h.2 i I) g⟩) ?_
   ·intro j mk r X;simp only[Free.find]at X
    repeat' split at X
    all_goals (first|cases X|skip)
   ·simp only[eJ,dT];iterate 4 (first|(apply Free.ae rfl rfl;(intro w' ⟨hb1,hb2⟩ hA;exact nf rfl (by simp[Act.eval,s3,sz]) hb1 Tryz.underlying292 rfl (by kernel_rfl)))|(apply Free.aC rfl rfl;(intro w' ⟨hb1,hb2⟩ hA;refine Free.au (f:=201) (args:= #[.agg x.cells.toArray, .string (r.extract 0 64)]) (by clear hb2;go_simp) ?_;refine(vm x K (r.extract 0 64) (by simp;omega) _ hb2).mono ?_;rintro e H ⟨rfl,U⟩;exact⟨_,rfl,U,rfl⟩))|(apply Free.ae rfl rfl;(intro w' ⟨hb1,hb2⟩ hA;clear hA hb2;go_light;go_simp<;>rfl)))
    apply Free.ax;intro H _ hg _;have C:=qh hg;have n:=A.below C A.lt;have q3:Below w.heap.size w H:=l.trans (C.mono l.size);obtain⟨z,hz⟩:=x_ (yO K x (r.extract 0 64))
    rw[<-hz];have HZ:=h_ hz;clear hg C s3 s4 sz hz;have c0:=n.ag 0 _ rfl;have c1:=n.ag 1 _ rfl;have c2:=n.ag 2 _ rfl;have c3:=n.ag 3 _ rfl;have c4:=n.ag 4 _ rfl;have c5:=n.ag 5 _ rfl;have c6:=n.ag 6 _ rfl;have c7:=n.ag 7 _ rfl;have f0:=n.frozen 0;have f1:=n.frozen 1;have f2:=n.frozen 2;have f3:=n.frozen 3;have f4:=n.frozen 4;have f5:=n.frozen 5;have f6:=n.frozen 6;have f7:=n.frozen 7;simp only[fm,fo,Sq];obtain rfl:=HA.out
    go_wp2
    go_roundw
    case rel=>
     go_light;exact vC u HR.out HX.out HZ.out n q3
    case measure=>simp[xn];omega
  ·have E:k=t.size / 64:=by omega
   obtain⟨r,B⟩:=x_ (t.extract (64*k) t.size)
   have J:r.size<64:=by rw[B];simp;omega
   rw[<-B];have HR:=h_ B;have g7:=h_ E;clear B E u;have co:decide ((64:Int)<=(r.size:Int))=false:=by simp;omega
   go_wp2_with (go_at_call 202;refine(Bg r t.size _ J (by omega)).mono ?_;rintro e w1 ⟨rfl,hw1⟩)
   clear co;obtain⟨p,hp⟩:=x_ (Bf r t.size)
   have d9:=Fz r t.size;rw[<-hp]at d9⊢;have li:p.size<=128:=by omega
   have ii:Hid (p.size % 64=0):=by show p.size % 64=0;omega
   clear d9;have HP:=h_ hp;clear hp;obtain⟨x1,an⟩:=x_ (blocks K t H0 k)
   rw[<-an]at A;have io:=h_ an;clear an;have ci:=A.below hw1 A.lt;have L:Below w.heap.size w w1:=l.trans (hw1.mono l.size);clear A l hw1
   go_loopw [4] (λv wr=>Oa w K p x1 v wr) (λv _=>xn v)
   case atStart=>exact⟨0,by omega,by simp,ci,L⟩
   case round=>
    clear ci L J;clear hk;obtain⟨wo,rfl⟩:=x_ (k:Nat)
    obtain⟨k,hk,rfl,A,l⟩:=hrel;by_cases u:64*k+64<=p.size
    ·obtain⟨r,B⟩:=x_ (p.extract (64*k) p.size)
     have J:64<=r.size:=by rw[B];simp;omega
     have jp:r.size<=p.size:=by rw[B];simp
     have lw:(64:Int)<=(r.size:Int):=by omega
     rw[<-B];have HR:=h_ B;clear B;have d8:=LI r (by omega);go_wp2_with fail;obtain⟨x,G⟩:=x_ (blocks K p x1 k)
     rw[<-G]at A;have HX:=h_ G;clear G;have D:∀i,i<64->wr.cell? ⟨0,i,none⟩=some (.int .u32 (K.getD i 0).toNat):=λi I=>by
      rw[l.cell (p:=⟨0,i,none⟩) (World.block_lt_of_cell? w _ (HK.out i I))];exact HK.out i I
     have S:=h_ D;clear D;generalize ha:Act.mk _ _=a;have sz:a.tmps.size=52:=by rw[<-ha];rfl
     have s3:a.tmps[3]'(by omega)= .pointer (some ⟨w.heap.size,0,none⟩):=by subst ha;rfl
     have s4:a.tmps[4]'(by omega)= .string r:=by subst ha;rfl
     have HA:=h_ ha;clear ha;refine Free.ai 4 [(3, .det (.agg (Sq (yO K x (r.extract 0 64)))))] (λH=>ay H w.heap.size x.cells 292/\∀i,i<64->H.cell? ⟨0,i,none⟩=some (.int .u32 (K.getD i 0).toNat)) (by kernel_rfl) (by kernel_rfl) ?_ ⟨A,S.out⟩ (λ_ _ h g=>⟨h.1.below g h.1.lt,λi I=>dJ (h.2 i I) g⟩) ?_
     ·intro j mk r X;simp only[Free.find]at X
      repeat' split at X
      all_goals (first|cases X|skip)
     ·simp only[eJ,dT];iterate 4 (first|(apply Free.ae rfl rfl;(intro w' ⟨hb1,hb2⟩ hA;exact nf rfl (by simp[Act.eval,s3,sz]) hb1 Tryz.underlying292 rfl (by kernel_rfl)))|(apply Free.aC rfl rfl;(intro w' ⟨hb1,hb2⟩ hA;refine Free.au (f:=201) (args:= #[.agg x.cells.toArray, .string (r.extract 0 64)]) (by clear hb2;go_simp) ?_;refine(vm x K (r.extract 0 64) (by simp;omega) _ hb2).mono ?_;rintro e H ⟨rfl,U⟩;exact⟨_,rfl,U,rfl⟩))|(apply Free.ae rfl rfl;(intro w' ⟨hb1,hb2⟩ hA;clear hA hb2;go_light;go_simp<;>rfl)))
      apply Free.ax;intro H _ hg _;have C:=qh hg;have n:=A.below C A.lt;have q3:Below w.heap.size w H:=l.trans (C.mono l.size);obtain⟨z,hz⟩:=x_ (yO K x (r.extract 0 64))
      rw[<-hz];have HZ:=h_ hz;clear hg C s3 s4 sz hz;have c0:=n.ag 0 _ rfl;have c1:=n.ag 1 _ rfl;have c2:=n.ag 2 _ rfl;have c3:=n.ag 3 _ rfl;have c4:=n.ag 4 _ rfl;have c5:=n.ag 5 _ rfl;have c6:=n.ag 6 _ rfl;have c7:=n.ag 7 _ rfl;have f0:=n.frozen 0;have f1:=n.frozen 1;have f2:=n.frozen 2;have f3:=n.frozen 3;have f4:=n.frozen 4;have f5:=n.frozen 5;have f6:=n.frozen 6;have f7:=n.frozen 7;simp only[fm,fo,Sq];obtain rfl:=HA.out
      go_wp2
      go_roundw
      case rel=>
       go_light;exact vC u HR.out HX.out HZ.out n q3
      case measure=>simp[xn];omega
    ·have E:k=p.size / 64:=by omega
     have f8:(p.extract (64*k) p.size).size=0:=by have:=ii.out;simp;omega
     have d8:=Ih _ f8;have g8:=h_ E;clear E f8 u hk;obtain⟨x,G⟩:=x_ (blocks K p x1 k)
     rw[<-G]at A;have HX:=h_ G;clear G;obtain⟨e,he⟩:=x_ (p.extract (64*k) p.size)
     rw[<-he]at d8⊢;have HE:=h_ he;clear he;have i':∀w:World,(Instr.makeSlice 117 (.int .i64 0) (.int .i64 64)).run Tryz.prog w= .ok (.slice (some ⟨w.heap.size,0,none⟩) 0 64) (w.alloc (.cells (Array.replicate 64 (.int .u8 0)) 5)):=λ_=>by kernel_rfl
     have G0:Hid (∀o,(wr.alloc o).heap[w.heap.size]? =some (.cells #[.int .u32 x.a.toNat, .int .u32 x.b.toNat, .int .u32 x.c.toNat, .int .u32 x.d.toNat, .int .u32 x.e.toNat, .int .u32 x.f.toNat, .int .u32 x.g.toNat, .int .u32 x.h.toNat] 292 (0,0))):=λo=>A.alloc o
     go_wp2_with (refine wpList_load_row rfl 292 _ rfl _ rfl 292 _ (0,0) _ (G0.out _) Tryz.underlying292 rfl (by kernel_rfl) ?_)
     obtain⟨R,hR⟩:=x_ wr.heap.size
     have ld:w.heap.size<R:=by rw[hR];exact A.lt
     have F:(wr.alloc (.cells (Array.replicate 64 (.int .u8 0)) 5)).ownsRow w.heap.size 5 1 (.slice (some ⟨R,0,none⟩) 0 64) 0 []:=by rw[hR];exact World.ownsRow_made wr _ 64 (by omega) (by unfold maxLen;omega) (by simp)
     rw[<-hR];have M:=l.alloc l.size (.cells (Array.replicate 64 (.int .u8 0)) 5);clear A l i' G0 hR
     go_loopw [5,34] (λv i wr=>Qf w R x v i wr) (λ_ i _=>8- (intOf i).toNat)
     case atStart=>exact⟨0,by omega,rfl,rfl,F,M⟩
     case round=>
      clear F M;obtain⟨j,hj,rfl,rfl,s,l⟩:=hrel;by_cases u:j<8
      ·have O:∀wx:World,(Instr.index 292 (.agg #[.int .u32 x.a.toNat, .int .u32 x.b.toNat, .int .u32 x.c.toNat, .int .u32 x.d.toNat, .int .u32 x.e.toNat, .int .u32 x.f.toNat, .int .u32 x.g.toNat, .int .u32 x.h.toNat]) (.int .i64 j)).run Tryz.prog wx= .ok (.int .u32 (x.list.getD j 0).toNat) wx:=λwx=>QP (x.list.map W).toArray j (.int .u32 (x.list.getD j 0).toNat) (by
        rw[List.getElem?_toArray,mx,wM x j u];rfl) u wx
       obtain⟨y,hy⟩:=x_ (x.list.getD j 0)
       rw[<-hy]at O;have HY:=h_ hy;clear hy;have dl:decide ((j:Int)<8)=true:=by simp;omega
       go_wp2_with fail;clear O dl;obtain⟨bs,V⟩:=x_ ((x.list.take j).flatMap ov)
       rw[<-V]at s;have ge:=h_ V;clear V;obtain⟨wo,rfl⟩:=x_ (wr:World)
       go_loopw [5,8] (λv i wr=>Qe w R j bs y v i wr) (λ_ i _=>(4+intOf i).toNat)
       case atStart=>exact⟨0,by omega,rfl,rfl,by simpa using s,l⟩
       case round=>
        clear s l;obtain⟨m,hm,rfl,rfl,s,l⟩:=hrel;by_cases d7:m<8
        ·have i1:(0:Int)<=28-4*(m:Int):=by omega
         have i2:(28-4*(m:Int)).toNat=28-4*m:=by omega
         have i3:(m:Int)<=7:=by omega
         have hq:=Md y m _ (show((y.toNat:Int) / 2 ^ (28-4*m))=_ by norm_cast);have f9:=Jk y m;obtain⟨q,eq⟩:=x_ (PO y m)
         rw[<-eq]at hq f9;have HQ:=h_ eq;clear eq;have lm:(q:Int)<16:=by omega
         obtain⟨d,ed⟩:=x_ (AQ.getD q 0)
         have hh:=LN q f9;rw[<-ed]at hh;have HD:=h_ ed;clear ed;obtain⟨cs,T⟩:=x_ ((bs++(ov y).take m).map C8)
         rw[<-T]at s;have gt:=h_ T;clear T;obtain⟨i0,ip,i8⟩:=JA;have i9:=l.size;go_wp2_with (at_builtin;refine wpList_append_fits _ rfl _ _ 117 rfl w.heap.size 5 i0 1 Tryz.underlying117 ip i8 R (8*j+m) 64 cs rfl (s.alloc _) ⟨wr.heap.size,0,none⟩ 1 1 [.int .u8 d.toNat] rfl rfl ?c1 ?c2 (by omega) ?_)
         case c1=>exact cell_one_new _ _ _
         case c2=>simp[Value.oneCell']
         intro w3 Z d6
         go_wp2
         go_roundw
         case rel=>
          go_light;have key:Qe w R j bs y (.slice (some ⟨R,0,none⟩) (8*j+m+1) 64) (.int .i64 (28-4*(m:Int)-4)) w3:=by
           refine⟨m+1,by omega,by congr 1;omega,by rw[Nat.add_assoc], ?_, ?_⟩
           ·rw[<-Eo bs y m d7, <-gt.out, <-HQ.out, <-HD.out, <-Nat.add_assoc];exact Z
           ·exact(l.alloc i9 _).grown d6 (by simp;omega) (λk hk=>by cases hk;omega)
          first|exact key|((repeat apply Exists.intro);exact⟨key,rfl⟩)
         case measure=>simp[intOf];omega
        ·obtain rfl:m=8:=by omega
         clear d7 hm
         go_wp2
         go_roundw
         case rel=>
          go_light;have key:Qf w R x (.slice (some ⟨R,0,none⟩) (8*j+8) 64) (.int .i64 (↑j+1)) wr:=by
           refine⟨j+1,by omega,by go_num,by congr 1, ?_,l⟩;have e:(x.list.take (j+1)).flatMap ov=bs++(ov y).take 8:=by
            rw[M1 (by simpa[S8.list]using u),DU, <-ge.out,np (by rw[ow];omega)]
            have:x.list[j]'(by simpa[S8.list]using u)=y:=by rw[HY.out,BX,eH (by simpa[S8.list]using u)];rfl
            rw[this];simp
           rw[e,show 8*(j+1)=8*j+8 by omega];exact s
          first|exact key|((repeat apply Exists.intro);exact⟨key,rfl⟩)
         case measure=>simp[intOf];omega
      ·obtain rfl:j=8:=by omega
       clear u hj;have hL:(x.list.take 8).flatMap ov=lq x:=by rw[np (by simp[S8.list])];rfl
       rw[hL]at s;have Q:(lq x).length=64:=by simp[lq,S8.list,ow]
       obtain⟨_,Y⟩:=s;rcases Y with⟨h1,_⟩|⟨g,cap,bi,h1,_,N,_,_,_,gc⟩
       ·cases h1
       ·cases h1
        have kw:(convert 117 9 (.slice (some ⟨R,0,none⟩) 64 64)).run Tryz.prog wr= .ok (.string ⟨(lq x).toArray⟩) wr:=by
         have:=sq (P:=Tryz.prog) (cap:=64) (lq x) Tryz.underlying117 Tryz.underlying5 Tryz.underlying9 (show ay wr R bi.toList 5 by unfold ay;simpa using N) (λj hj=>by
          have h2:(bi.toList.take (8*8*1))[j]? =((lq x).map C8)[j]? :=by rw[gc]
          rw[Sj (by omega),mx,eH hj]at h2;exact h2)
         rw[Q]at this;exact this
        clear N gc hL Q
        go_wp2
        go_ret;exact⟨by rw[uB, <-g7.out, <-HR.out, <-HP.out, <-g8.out, <-io.out, <-HX.out];rfl,l⟩
def n9(c:UInt8):Prop:=(48<=c.toNat/\c.toNat<=57)\/(97<=c.toNat/\c.toNat<=102)
def hv(c:UInt8):Nat:=if 97<=c.toNat then c.toNat-87 else c.toNat-48
def num(l:List UInt8):Nat:=l.foldl (λn c=>n*16+hv c) 0
theorem IM(q:Nat)(h:q<16):n9 (AQ.getD q 0):=by
 have:∀q,q<16->n9 (AQ.getD q 0):=by unfold n9;decide
 exact this q h
theorem Fb(x:S8):∀c∈lq x,n9 c:=by intro c a;unfold lq at a;obtain⟨y,_,b⟩:=PT.1 a;unfold ov at b;obtain⟨m,_,rfl⟩:=nS.1 b;exact IM _ (Jk y m)
theorem Fc(x:S8):(lq x).length=64:=by simp[lq,S8.list,ow]
theorem QM{c:UInt8}(h:n9 c):hv c<16:=by unfold hv;unfold n9 at h;split<;>omega
theorem yT(l:List UInt8)(k:Nat)(h:k<l.length):num (l.take (k+1))=num (l.take k)*16+hv l[k]:=by rw[M1 h,num,PA];rfl
theorem OW(l:List UInt8)(h:∀c∈l,n9 c)(k:Nat)(b:k<=l.length):num (l.take k)<16 ^ k:=by
 induction k with
 |zero=>simp[num]
 |succ k ih=>have:=ih (by omega);have a:=QM (h l[k] (KM _));rw[yT l k (by omega),GL];omega
def tM(K:List UInt32)(t:ByteArray):List UInt8:=(uB K t).data.toList
theorem DM(K:List UInt32)(t:ByteArray):∃x,tM K t=lq x:=⟨_,by unfold tM uB;rfl⟩
theorem DL(K:List UInt32)(t:ByteArray):uB K t=⟨(tM K t).toArray⟩:=by unfold tM;simp
theorem zK(K:List UInt32)(t:ByteArray):(tM K t).length=64:=by obtain⟨x,h⟩:=DM K t;rw[h,Fc]
theorem Kf(K:List UInt32)(t:ByteArray):∀c∈tM K t,n9 c:=by obtain⟨x,h⟩:=DM K t;rw[h];exact Fb x
def number(K:List UInt32)(t:ByteArray)(m:Int):Int:=if m<1 then 0 else(num ((tM K t).take 15):Int) % m

theorem Le(s:ByteArray)(w:World)(h:15<=s.size):∃e d,(convert 9 117 (.string (s.extract 0 15))).run Tryz.prog w= .ok (.slice (some ⟨w.heap.size,0,none⟩) 15 e) (w.drew.alloc d)/\
  ∀k,k<15->(w.alloc d).cell? ⟨w.heap.size,k,none⟩=some (.int .u8 (s.data.toList.getD k 0).toNat):=by
 have a:=run_bytes_of_string (P:=Tryz.prog) w 9 117 5 (s.extract 0 15) Tryz.underlying9 Tryz.underlying117 Tryz.underlying5;have b:(s.extract 0 15).size=15:=by simp;omega
 rw[b]at a;refine⟨_,_,a,λk f=> ?_⟩;rw[World.cell?_alloc_mark,bytesRow,Array.getElem?_append_left (by simp;omega),Array.getElem?_map];have c:k<s.data.size:=by show k<s.size;omega
 simp[Array.getElem?_extract];exact⟨s.data[k],⟨by show k<min 15 s.data.size;omega,by simp⟩,by rw[Si c];rfl⟩
set_option maxHeartbeats 1000000 in
theorem sW(K:List UInt32)(t:ByteArray)(m:Int)(w:World)(Z:t.size<140737488355328)(hm:m<=9223372036854775807)(M:∀i,i<64->w.cell? ⟨0,i,none⟩=some (.int .u32 (K.getD i 0).toNat)):
  Calls Tryz.prog 92 #[.string t, .int .i64 m] w λr w'=>r= .returned (.int .i64 (number K t m))/\Below w.heap.size w w':=by
 by_cases T:m<1
 ·go_enter Tryz.func92,Tryz.ntmps92;go_wp2_with fail;go_ret;exact⟨by rw[number,if_pos T];rfl,Below.refl _ _⟩
 ·have f:=DN K t w Z M;clear M;have d:=zK K t;have G:(uB K t).size=64:=by rw[DL];show(tM K t).toArray.size=64;simp[d]
  obtain⟨s,A⟩:=x_ (uB K t)
  have Q:64<=s.size:=by rw[A];omega
  have R:s.size<=64:=by rw[A];omega
  rw[<-A]at f;have u:=h_ f;have HS:=h_ A;have h:=h_ d;clear G d A f;have P:(15:Int)<=(s.size:Int):=by omega
  have X:1<=m:=by omega
  go_enter Tryz.func92,Tryz.ntmps92;go_wp2_with fail;refine u.out.mono ?_;rintro e w1 ⟨rfl,x⟩;obtain⟨cp,ob,W,a⟩:=Le s w1 (by omega);have j:=h_ a;clear a;go_wp2_with fail;have N:s.data.toList=tM K t:=by rw[HS.out];rfl
  rw[N]at j;obtain⟨L,C⟩:=x_ (tM K t)
  have o:=Kf K t;rw[<-C]at j o h;have S:=h_ C;have H:=h_ o;clear N C o
  go_loop [5,16] (λn i=> ∃k:Nat,k<=15/\i= .int .i64 k/\n= .int .i64 (num (L.take k):Nat)) (λ_ i=>15- (intOf i).toNat)
  case atStart=>exact⟨0,by omega,rfl,rfl⟩
  case round=>
   obtain⟨k,hk,rfl,rfl⟩:=hrel;by_cases E:k<15
   ·have O:=j.out k E;have p:k<L.length:=by have:=h.out;omega
    have B:=H.out L[k] (KM _);have g:=yT L k p;have z:=OW L H.out k (by omega);have F:16 ^ k<=16 ^ 14:=Nat.pow_le_pow_right (by omega) (by omega);have y:L.getD k 0=L[k]:=by rw[BX,eH p];rfl
    rw[y]at O;obtain⟨c,I⟩:=x_ (L[k])
    rw[<-I]at O B g;obtain⟨n,J⟩:=x_ (num (L.take k))
    rw[<-J]at g z⊢;have Y:n<72057594037927936:=by
      have:(16:Nat) ^ 14=72057594037927936:=by decide
      omega
    have q:=h_ g;clear I J g y z F p;unfold n9 at B;have V:c.toNat<256:=c.toNat_lt;by_cases v:97<=c.toNat
    ·have b:hv c=c.toNat-87:=by unfold hv;rw[if_pos v]
     have l:=h_ b;clear b;have D:c.toNat<=102:=by omega
     clear B
     go_wp2
     go_round
     case rel=>exact⟨k+1,by omega,by go_num,by rw[q.out,l.out];congr 1;omega⟩
     case measure=>simp[intOf];omega
    ·have b:hv c=c.toNat-48:=by unfold hv;rw[if_neg v]
     have l:=h_ b;clear b;have D:c.toNat<=57:=by omega
     have U:48<=c.toNat:=by omega
     clear B
     go_wp2
     go_round
     case rel=>exact⟨k+1,by omega,by go_num,by rw[q.out,l.out];congr 1;omega⟩
     case measure=>simp[intOf];omega
   ·obtain rfl:k=15:=by omega
    go_wp2
    go_ret;refine⟨?_, ?_⟩
    ·rw[number,if_neg (by omega), <-S.out];rfl
    ·exact(x.alloc x.size ob).drew
def KC:List UInt32:= [1116352408,1899447441,3049323471,3921009573,961987163,1508970993,2453635748,2870763221,3624381080,310598401,607225278,1426881987,1925078388,2162078206,2614888103,3248222580,3835390401,4022224774,264347078,604807628,770255983,1249150122,1555081692,1996064986,2554220882,2821834349,2952996808,3210313671,3336571891,3584528711,113926993,338241895,666307205,773529912,1294757372,1396182291,1695183700,1986661051,2177026350,2456956037,2730485921,2820302411,3259730800,3345764771,3516065817,3600352804,4094571909,275423344,430227734,506948616,659060556,883997877,958139571,1322822218,1537002063,1747873779,1955562222,2024104815,2227730452,2361852424,2428436474,2756734187,3204031479,3329325298]
def GV(w:World):Prop:=∀i,i<64->w.cell? ⟨0,i,none⟩=some (.int .u32 (KC.getD i 0).toNat)
theorem GV.below{w w':World}{B:Nat}(h:GV w)(b:Below B w w')(c:w.heap.size<=B):GV w':=λi a=>by
 rw[b.cell (p:=⟨0,i,none⟩) (by have:=World.block_lt_of_cell? w _ (h i a);omega)];exact h i a
open Go.Sg
def dS(b n:Int):Int:=if 1<=b/\b<=2147483646/\0<=n then(pw b.toNat n.toNat:Int)else 0
theorem iw{b n:Int}(a:1<=b)(c:b<=2147483646)(d:0<=n):dS b n=(pw b.toNat n.toNat:Int):=by unfold dS;rw[if_pos ⟨a,c,d⟩]
theorem vx{b n:Int}(h: ¬(1<=b/\b<=2147483646/\0<=n)):dS b n=0:=by unfold dS;rw[if_neg h]

theorem vp(a:Nat)(b:a<9223372036854775808):(BitVec.ofInt 64 (a:Int)).toNat=a:=by rw[BitVec.ofInt_natCast,BitVec.toNat_ofNat];exact PD (by omega)
theorem yE(a b:Nat)(c:a<9223372036854775808)(d:b<9223372036854775808):bits .and .i64 (a:Int) (b:Int)=((a&&&b:Nat):Int):=by have e:a&&&b<2 ^ 63:=Nat.and_lt_two_pow _ (by omega);show IntKind.i64.wrap ((BitVec.ofInt 64 (a:Int)&&&BitVec.ofInt 64 (b:Int)).toNat:Int)=_;rw[BitVec.toNat_and,vp a c,vp b d,IntKind.wrap_i64];omega
theorem Lb(m:Nat)(h:m<9223372036854775808):bits BinOp.and IntKind.i64 (m:Int) 1=((m % 2:Nat):Int):=by rw[show(1:Int)=((1:Nat):Int) from rfl,yE m 1 h (by decide),Nat.and_one_is_mod]
theorem uv(x:Nat)(h:x<2 ^ 64):x<2 ^ Lib.bitLen x:=by
 by_cases a:x=0
 ·subst a;exact Nat.two_pow_pos _
 ·exact(Lib.bitLenAux_bounds 64 x h a).2.2
theorem bitLen_le(x:Nat)(h:x<2 ^ 63):Lib.bitLen x<=63:=by
 by_cases a:x=0
 ·subst a;decide
 ·have:=(Lib.bitLenAux_bounds 64 x (by omega) a).2.1;refine Sh λc=> ?_
  have b:2 ^ 63<=2 ^ (Lib.bitLen x-1):=Nat.pow_le_pow_right (by omega) (by omega);unfold Lib.bitLen at b;omega
theorem O6(b n i:Nat):pw b (n % 2 ^ (i+1))=if n / 2 ^ i % 2=1 then pw b (n % 2 ^ i)*pw b (2 ^ i) % gp else pw b (n % 2 ^ i):=by
 have e:n % 2 ^ (i+1)=n % 2 ^ i+2 ^ i*(n / 2 ^ i % 2):=by rw[GL,Nat.mod_mul]
 rw[e];rcases Nat.mod_two_eq_zero_or_one (n / 2 ^ i)with h|h
 ·rw[h,if_neg (by omega),Nat.mul_zero,KO]
 ·rw[h,if_pos rfl,KJ,nH]
theorem RE(b i:Nat):pw b (2 ^ (i+1))=pw b (2 ^ i)*pw b (2 ^ i) % gp:=by rw[<-nH,GL,Nat.mul_two]

theorem ze(a b:Int)(w:World)(d:0<=a)(f:a<=2147483646)(c:0<=b)(g:b<=2147483646):
  Calls Tryz.prog 90 #[.int .i64 a, .int .i64 b] w λe w'=>e= .returned (.int .i64 (a*b % 2147483647))/\w=w':=by
 have h:0<=a*b:=Int.mul_nonneg d c;have i:a*b<=4611686009837453316:=by have:=Int.mul_le_mul f g c (by omega);omega
 go_enter Tryz.func90,Tryz.ntmps90
 go_wp2
 go_ret;exact⟨rfl,rfl⟩
theorem kI(y:Int)(w:World)(a:1<=y)(b:y<=2147483646):Calls Tryz.prog 54 #[.int .i64 y] w λe w'=>e= .returned (.bool true)/\w=w':=by
 go_enter Tryz.func54,Tryz.ntmps54
 go_wp2
 go_ret;exact⟨rfl,rfl⟩
theorem AV(y:Int)(w:World)(h: ¬(1<=y/\y<=2147483646)):Calls Tryz.prog 54 #[.int .i64 y] w λe w'=>e= .returned (.bool false)/\w=w':=by
 by_cases b:1<=y
 ·have a: ¬y<=2147483646:=λa=>h ⟨b,a⟩
  clear h;go_enter Tryz.func54,Tryz.ntmps54
  go_wp2
  go_ret;exact⟨rfl,rfl⟩
 ·clear h;go_enter Tryz.func54,Tryz.ntmps54
  go_wp2
  go_ret;exact⟨rfl,rfl⟩
theorem MJ(y:Int)(w:World)(a:1<=y)(b:y<=2147483645):Calls Tryz.prog 79 #[.int .i64 y] w λe w'=>e= .returned (.bool true)/\w=w':=by
 go_enter Tryz.func79,Tryz.ntmps79
 go_wp2
 go_ret;exact⟨rfl,rfl⟩
theorem Ph(y:Int)(w:World)(h: ¬(1<=y/\y<=2147483645)):Calls Tryz.prog 79 #[.int .i64 y] w λe w'=>e= .returned (.bool false)/\w=w':=by
 by_cases b:1<=y
 ·have a: ¬y<=2147483645:=λa=>h ⟨b,a⟩
  clear h;go_enter Tryz.func79,Tryz.ntmps79
  go_wp2
  go_ret;exact⟨rfl,rfl⟩
 ·clear h;go_enter Tryz.func79,Tryz.ntmps79
  go_wp2
  go_ret;exact⟨rfl,rfl⟩
theorem LU(x:Int)(w:World)(a:0<=x)(b:x<=18446744073709551615):
  Calls Tryz.prog 91 #[.int .u64 x] w λe w'=>e= .returned (.int .i64 (Lib.bitLen x.toNat))/\w=w':=by
 go_enter Tryz.func91,Tryz.ntmps91;go_wp2_with (go_at_call 137;refine(Tryz.bits_Len64 _ _ a b).mono ?_;rintro e w' ⟨rfl,rfl⟩)
 go_ret;exact⟨rfl,rfl⟩
def RP(b n:Nat)(x r i:Value):Prop:=∃k:Nat,k<=Lib.bitLen n/\i= .int .i64 k/\x= .int .i64 (pw b (2 ^ k):Nat)/\r= .int .i64 (pw b (n % 2 ^ k):Nat)
theorem mL(b n:Int)(w:World)(P:n<=9223372036854775807):
  Calls Tryz.prog 55 #[.int .i64 b, .int .i64 n] w λe w'=>e= .returned (.int .i64 (dS b n))/\w=w':=by
 by_cases q:1<=b/\b<=2147483646
 ·by_cases O:n<0
  ·rw[vx (by omega)];go_enter Tryz.func55,Tryz.ntmps55;go_wp2_with (go_at_call 54;refine(kI _ _ q.1 q.2).mono ?_;rintro e w' ⟨rfl,rfl⟩)
   go_ret;exact⟨rfl,rfl⟩
  ·obtain⟨o,z⟩:=q;have K:0<=n:=by omega
   rw[iw o z K];obtain⟨m,rfl⟩:∃m:Nat,n=m:=⟨n.toNat,by omega⟩
   obtain⟨c,rfl⟩:∃c:Nat,b=c:=⟨b.toNat,by omega⟩
   have hm:m<2 ^ 63:=by omega
   have M:=bitLen_le m hm;have y:=uv m (by omega);have A:c<gp:=by unfold gp;omega
   have B:RP c m (.int .i64 c) (.int .i64 1) (.int .i64 0):=⟨0,gu _,rfl,by rw[Nat.pow_zero,O8 c A],by rw[Nat.pow_zero,Nat.mod_one,Mw];rfl⟩
   have u:=h_ B;have G:=h_ y;clear B y A;simp only[tZ];have g:∀w,Calls Tryz.prog 91 #[.int .u64 (m:Int)] w λe w'=>e= .returned (.int .i64 (Lib.bitLen m))/\w=w':=λw=>LU m w (by omega) (by omega)
   obtain⟨L,E⟩:=x_ (Lib.bitLen m)
   rw[<-E]at g M G;have C:=h_ E;have s:=h_ g;clear E g;go_enter Tryz.func55,Tryz.ntmps55;go_wp2_with (first|(go_at_call 54;refine(kI _ _ o z).mono ?_;rintro e w' ⟨rfl,rfl⟩)|(go_at_call 91;refine(s.out _).mono ?_;rintro e w' ⟨rfl,rfl⟩))
   go_loop [0,6,18] (λx r i=>RP c m x r i) (λ_ _ i=>L- (intOf i).toNat)
   case atStart=>exact u.out
   case round=>
    clear u;obtain⟨k,q,rfl,rfl,rfl⟩:=hrel;rw[<-C.out]at q;have I:=tw c (2 ^ k);have H:=tw c (m % 2 ^ k);unfold gp at I H;have h:=RE c k;have d:=O6 c m k;obtain⟨x,v⟩:=x_ (pw c (2 ^ k))
    obtain⟨r,p⟩:=x_ (pw c (m % 2 ^ k))
    by_cases N:k<L
    ·rw[<-v, <-p]at d⊢;rw[<-v]at h I;rw[<-p]at H;have t:=h_ h;have j:=h_ d;clear h d v p;have o:bits BinOp.and IntKind.i64 ((m:Int) / 2 ^ k) 1=((m / 2 ^ k % 2:Nat):Int):=by have:=Lb (m / 2 ^ k) (by have:=Nat.div_le_self m (2 ^ k);omega);rw[<-this];norm_cast
     have a:((m:Int) / 2 ^ k % 2)=((m / 2 ^ k % 2:Nat):Int):=by norm_cast
     by_cases f:m / 2 ^ k % 2=1
     ·have F:((m:Int) / 2 ^ k % 2==1)=true:=by rw[a,f];rfl
      have D:=h_ f;clear f a;go_wp2_with (go_at_call 90;refine(ze _ _ _ (by omega) (by omega) (by omega) (by omega)).mono ?_;rintro e w' ⟨rfl,rfl⟩)
      go_round
      case rel=>exact⟨k+1,by rw[<-C.out];omega,by go_num,by rw[t.out];rfl,by rw[j.out,if_pos D.out];rfl⟩
      case measure=>simp[intOf];omega
     ·have F:((m:Int) / 2 ^ k % 2==1)=false:=by rw[a,show m / 2 ^ k % 2=0 by omega];rfl
      have D:=h_ f;clear f a;go_wp2_with (go_at_call 90;refine(ze _ _ _ (by omega) (by omega) (by omega) (by omega)).mono ?_;rintro e w' ⟨rfl,rfl⟩)
      go_round
      case rel=>exact⟨k+1,by rw[<-C.out];omega,by go_num,by rw[t.out];rfl,by rw[j.out,if_neg D.out]⟩
      case measure=>simp[intOf];omega
    ·obtain rfl:k=L:=by omega
     have l:r=pw c m:=by rw[p,PD G.out]
     have J:=h_ l;rw[<-v, <-p];clear l d h v p;go_wp2_with fail;go_ret;exact⟨by rw[J.out];rfl,rfl⟩
 ·rw[vx (by omega)];go_enter Tryz.func55,Tryz.ntmps55;go_wp2_with (go_at_call 54;refine(AV _ _ q).mono ?_;rintro e w' ⟨rfl,rfl⟩)
  go_ret;exact⟨rfl,rfl⟩
end Go.Proofs.YtkmbmfengcdmoaaGreatDoor
