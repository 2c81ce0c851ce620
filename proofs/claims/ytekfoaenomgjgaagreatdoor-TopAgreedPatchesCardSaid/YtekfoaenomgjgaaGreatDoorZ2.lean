/- An append leaves the old view of its row as it was. No condition. -/
import Derived.Test.YtekfoaenomgjgaaGreatDoorMixA
import Derived.Test.YtekfoaenomgjgaaGreatDoorShelf
import Derived.Test.YtekfoaenomgjgaaGreatDoorRows
import Derived.WalkSpells
import Derived.WalkLawsBesides
import Derived.Outline
import Derived.Deep.Light
import Derived.Test.YtekfoaenomgjgaaGreatDoorMixB
import Derived.Maps.AppendAt
import Derived.Laws.Append
import Derived.Laws.AppendOwn
set_option maxRecDepth 100000
set_option linter.all false
namespace Go.Proofs.YtekfoaenomgjgaaGreatDoor
open Go.RowKit Go.W32 Go.Blk
def be8(m:Nat):List UInt8:=(List.range 8).map fun j=>UInt8.ofNat (m / 256 ^ (7-j))
theorem be8_len(m:Nat):(be8 m).length=8:=by simp[be8]
def padB(e:ByteArray)(n:Nat):ByteArray:=e++⟨#[128]⟩++⟨(Lib.repeatL [0] ((119-e.size) % 64)).toArray⟩++⟨(be8 (n*8)).toArray⟩

def RelP(w:World)(m:Nat)(i left:Value)(wr:World):Prop:=
 ∃(k:Nat) (l:List UInt8),k<=8/\i= .int .i64 (7- (k:Int))/\left= .int .u64 ((m / 256 ^ k:Nat):Int)/\l.length=8/\(∀j,j<8->8-k<=j->l[j]? =some (UInt8.ofNat (m / 256 ^ (7-j))))/\Blk wr w.heap.size (l.map C8) 5/\Below w.heap.size w wr

theorem relP_step{w wr:World}{m k:Nat}{l:List UInt8}(hk:k<8)(hl:l.length=8)(h:∀j,j<8->8-k<=j->l[j]? =some (UInt8.ofNat (m / 256 ^ (7-j))))(hB:Blk wr w.heap.size (l.map C8) 5)(hb:Below w.heap.size w wr)(a b c:Int)
  (ha:a=7- ((k+1:Nat):Int)) (hbb:b=((m / 256 ^ (k+1):Nat):Int)) (hc:c=(m / 256 ^ k:Nat) % 256):
  RelP w m (.int .i64 a) (.int .u64 b) (wr.setCell ⟨w.heap.size,7-k,none⟩ (.int .u8 c)):=by
 subst ha;subst hbb;subst hc
 refine⟨k+1,l.set (7-k) (UInt8.ofNat (m / 256 ^ k)),by omega,rfl,rfl,by simp[hl], ?_, ?_,hb.setCell (Nat.le_refl _) _⟩
 ·intro j hj hjk
  by_cases e:j=7-k
  ·subst e;rw[List.getElem?_set_self (by omega),show 7- (7-k)=k by omega]
  ·rw[List.getElem?_set_ne (by omega)];exact h j hj (by omega)
 ·rw[List.map_set]
  have:C8 (UInt8.ofNat (m / 256 ^ k))= .int .u8 (((m / 256 ^ k:Nat):Int) % 256):=by
   unfold C8;congr 1
  rw[this];exact hB.set _ _
theorem be8_of{m:Nat}{l:List UInt8}(hl:l.length=8)(h:∀j,j<8->8-8<=j->l[j]? =some (UInt8.ofNat (m / 256 ^ (7-j)))):l=be8 m:=by
 apply List.ext_getElem?
 intro i
 by_cases hi:i<8
 ·rw[h i hi (by omega)];simp[be8,hi]
 ·rw[List.getElem?_eq_none (by omega),List.getElem?_eq_none (by rw[be8_len];omega)]

set_option maxHeartbeats 1000000 in
theorem padded_any(e:ByteArray)(n:Nat)(w:World)(he:e.size<64)(hn:n<281474976710656):
  Calls Tryz.prog 78 #[.string e, .int .i64 n] w fun r w'=>r= .returned (.string (padB e n))/\Below w.heap.size w w':=by
 have hmk:∀w:World,(Instr.makeSlice 153 (.int .i64 8) (.int .i64 8)).run Tryz.prog w= .ok (.slice (some ⟨w.heap.size,0,none⟩) 8 8) (w.alloc (.cells #[.int .u8 0, .int .u8 0, .int .u8 0, .int .u8 0, .int .u8 0, .int .u8 0, .int .u8 0, .int .u8 0] 5)):=fun _=>by kernel_rfl
 go_enter Tryz.func78,Tryz.ntmps78
 go_wp2_with fail
 go_loopw [7,8] (fun i l wr=>RelP w (n*8) i l wr) (fun i _ _=>(1+intOf i).toNat)
 case atStart=>
  refine⟨0,List.replicate 8 0,by omega,rfl,by simp,by simp,fun j h1 h2=>by omega,Blk.made rfl (by simp[C8]),(Below.refl _ _).alloc (Nat.le_refl _) _⟩
 case round=>
  obtain⟨k,l,hk,rfl,rfl,hl,hls,hB,hbl⟩:=hrel
  have HL:=h_ hl
  have HS:=h_ hls
  clear hl hls
  by_cases hlt:k<8
  ·obtain⟨y,hy⟩:∃y,l[7-k]? =some y:=⟨l[7-k]'(by have:=HL.out;omega),by simp⟩
   have hc:=hB.cellD (7-k) (.int .u8 y.toNat) (by rw[List.getElem?_map,hy];rfl)
   have HY:=h_ hy
   clear hy
   have hf:=hB.frozen (7-k)
   have hm:n*8 / 256 ^ k<=n*8:=Nat.div_le_self _ _
   have HD:Hid (n*8 / 256 ^ (k+1)=n*8 / 256 ^ k / 256):=by show _=_;rw[Nat.pow_succ,Nat.div_div_eq_div_mul]
   obtain⟨m,em⟩:∃m,m=n*8 / 256 ^ k:=⟨_,rfl⟩
   rw[<-em]at hm⊢
   have EM:=h_ em
   clear em
   have i0:(0:Int)<=7- (k:Int):=by omega
   have i1:(7- (k:Int))<8:=by omega
   have i2:(7- (k:Int)).toNat=7-k:=by omega
   have i3:(k:Int)<=7:=by omega
   go_wp2
   go_roundw
   case rel=>
    go_light
    exact relP_step hlt HL.out HS.out hB hbl _ _ _ (by omega) (by rw[HD.out, <-EM.out];omega) (by rw[<-EM.out])
   case measure=>simp[intOf];omega
  ·obtain rfl:k=8:=by omega
   clear hlt hk
   have hL:=be8_of HL.out HS.out
   rw[hL]at hB
   clear hL HL HS
   go_wp2_with fail
   have hz:(((119-e.size) % 64:Nat):Int)=(119- (e.size:Int)) % 64:=by omega
   obtain⟨z,ez⟩:∃z,z=(119-e.size) % 64:=⟨_,rfl⟩
   have hz2:z<64:=by omega
   rw[<-ez]at hz
   generalize ha:Act.mk _ _=a
   have sz:a.tmps.size=36:=by rw[<-ha];rfl
   have s0:a.tmps[0]'(by omega)= .string e:=by subst ha;rfl
   have s5:a.tmps[5]'(by omega)= .int .i64 z:=by subst ha;rw[hz];rfl
   have s6:a.tmps[6]'(by omega)= .slice (some ⟨w.heap.size,0,none⟩) 8 8:=by subst ha;rfl
   have HA:=h_ ha
   have HZ:=h_ ez
   clear ha hz ez
   have r1:(Lib.repeatL [0] z).length=z:=by rw[Lib.repeatL_length];simp
   have r2:=be8_len (n*8)
   refine Free.wp_region_free 9 [(3, .det (.string ⟨(Lib.repeatL [0] z).toArray⟩))] (fun w2=>Blk w2 w.heap.size ((be8 (n*8)).map C8) 5) (by kernel_rfl) (by kernel_rfl) ?_ hB (fun _ _ h g=>h.below g h.lt) ?_
   ·intro j mk r hf
    simp only[Free.find]at hf
    repeat' split at hf
    all_goals (first|cases hf|skip)
   ·simp only[List.take_succ_cons,List.take_zero]
    iterate 9 (first|(apply Free.chain_det rfl rfl;(intro w' hb hA;refine Free.opRun_call (by go_simp;exact⟨rfl,rfl⟩) ?_;refine(Tryz.strings_Repeat ⟨#[0]⟩ z _ (by omega) (by show 1*z<=_;omega)).mono ?_;rintro e w2 ⟨rfl,hb2⟩;exact⟨_,rfl,hb2,rfl⟩))|(apply Free.chain_still rfl rfl;(intro w' hb hA;clear hA;go_light;go_simp<;>(first|rfl|(rw[if_neg (by omega)]))))|(apply Free.chain_still rfl rfl;(intro w' hb hA;clear hA;go_light;have hcv:=conv_bytes (P:=Tryz.prog) (cap:=8) (be8 (n*8)) Tryz.underlying153 Tryz.underlying5 Tryz.underlying9 hb (fun j hj=>by rw[List.getElem?_map,List.getElem?_eq_getElem hj];rfl);rw[be8_len]at hcv;go_simp<;>rfl)))
    apply Free.chain_nil
    intro w2 _ hg _
    have hg':=gS hg
    have q3:Below w.heap.size w w2:=hbl.trans (hg'.mono hbl.size)
    clear hg hg' s0 s5 s6 sz
    simp only[List.drop_succ_cons,List.drop_zero]
    obtain rfl:=HA.out
    go_wp2
    go_ret
    have ep:padB e n=e++⟨#[128]⟩++⟨(Lib.repeatL [0] z).toArray⟩++⟨(be8 (n*8)).toArray⟩:=by rw[padB, <-HZ.out]
    exact⟨by rw[ep];rfl,q3⟩
end Go.Proofs.YtekfoaenomgjgaaGreatDoor
namespace Go.Proofs.YtekfoaenomgjgaaGreatDoor
open Go.RowKit Go.W32 Go.Blk

def dq(K:List UInt32)(t:ByteArray)(x:S8):Nat->S8
 |0=>x
 |k+1=>mixS K (dq K t x k) (t.extract (64*k) (64*k+64))
def H0:S8:=⟨1779033703,3144134277,1013904242,2773480762,1359893119,2600822924,528734635,1541459225⟩
def hexS:List UInt8:= [48,49,50,51,52,53,54,55,56,57,97,98,99,100,101,102]
def nib(x:UInt32)(m:Nat):Nat:=x.toNat / 2 ^ (28-4*m) % 16
def digs(x:UInt32):List UInt8:=(List.range 8).map fun m=>hexS.getD (nib x m) 0
def hexOf(x:S8):List UInt8:=x.list.flatMap digs
def sumB(K:List UInt32)(t:ByteArray):ByteArray:=
 let p:=padB (t.extract (64*(t.size / 64)) t.size) t.size
 ⟨(hexOf (dq K p (dq K t H0 (t.size / 64)) (p.size / 64))).toArray⟩
def strLen:Value->Nat| .string s=>s.size|_=>0

theorem fM{P:Program}{o:Oper}{ρ:Operand->Value}{w:World}{ty:TypeId}{x:Operand}{g:Nat}{t:TypeId}{cs:Array Value}{fr:Nat×Nat}{d:TypeDesc}(ho:o.op= .load ty x)(hx:ρ x= .pointer (some ⟨g,0,none⟩))(hg:w.heap[g]? =some (.cells cs t fr))
  (hu:P.underlying ty=some d) (hd:(match d with| .struct _| .array _ _=>true|_=>false)=true) (hi:(P.info? ty).map (·.size)=some cs.size):(execOp ρ o).run P w= .ok (.value (.agg cs)) w:=by
 unfold execOp
 simp only[ho,hx,Instr.loadAt,Instr.sureAddr,Sem.run_bind,Sem.run_pure,Result.andThen_ok,run_loadVar_row w g t ty cs fr d hg hu hd hi]

def Arr(x:S8):Array Value:= #[.int .u32 x.a.toNat, .int .u32 x.b.toNat, .int .u32 x.c.toNat, .int .u32 x.d.toNat, .int .u32 x.e.toNat, .int .u32 x.f.toNat, .int .u32 x.g.toNat, .int .u32 x.h.toNat]
theorem ext_ext(t:ByteArray)(k:Nat)(h:64*k+64<=t.size):(t.extract (64*k) t.size).extract 0 64=t.extract (64*k) (64*k+64):=by
 rw[ByteArray.extract_extract];congr 1;omega
theorem ext_rest(t:ByteArray)(k:Nat)(h:64*k+64<=t.size):(t.extract (64*k) t.size).extract 64 (t.extract (64*k) t.size).size=t.extract (64*(k+1)) t.size:=by
 rw[ByteArray.extract_extract];congr 1
 simp;omega

theorem padB_size(e:ByteArray)(n:Nat):(padB e n).size=e.size+9+(119-e.size) % 64:=by
 have e1:(ByteArray.mk (Lib.repeatL [0] ((119-e.size) % 64)).toArray).size=(119-e.size) % 64:=by
  show(Lib.repeatL [0] ((119-e.size) % 64)).toArray.size=_
  rw[List.size_toArray,Lib.repeatL_length];simp
 have e2:(ByteArray.mk #[128]).size=1:=rfl
 have e3:(ByteArray.mk (be8 (n*8)).toArray).size=8:=by
  show(be8 (n*8)).toArray.size=_
  rw[List.size_toArray,be8_len]
 unfold padB
 rw[ByteArray.size_append,ByteArray.size_append,ByteArray.size_append,e1,e2,e3]
 omega
theorem full_of(s:ByteArray)(h:0<s.size):s.toList.isEmpty=false:=by
 rw[<-decide_eq_emptyBytes]
 simp only[decide_eq_false_iff_not]
 intro e;rw[e]at h;exact absurd h (by decide)
theorem empty_of(s:ByteArray)(h:s.size=0):s.toList.isEmpty=true:=by
 rw[<-decide_eq_emptyBytes]
 simp only[decide_eq_true_eq]
 exact ByteArray.size_eq_zero_iff.1 h
def RelS(w:World)(K:List UInt32)(t:ByteArray)(x:S8)(v:Value)(wr:World):Prop:=
 ∃k:Nat,64*k<=t.size/\v= .string (t.extract (64*k) t.size)/\Blk wr w.heap.size (dq K t x k).cells 150/\Below w.heap.size w wr

theorem relS_step{w w2:World}{K:List UInt32}{t r:ByteArray}{x0 x z:S8}{k:Nat}(hlt:64*k+64<=t.size)(hr:r=t.extract (64*k) t.size)(hx:x=dq K t x0 k)(hz:z=mixS K x (r.extract 0 64))(q0:Blk w2 w.heap.size x.cells 150)(q3:Below w.heap.size w w2):
  RelS w K t x0 (.string (r.extract 64 r.size)) ((((((((w2.setCell ⟨w.heap.size,0,none⟩ (.int .u32 z.a.toNat)).setCell ⟨w.heap.size,1,none⟩ (.int .u32 z.b.toNat)).setCell ⟨w.heap.size,2,none⟩ (.int .u32 z.c.toNat)).setCell ⟨w.heap.size,3,none⟩ (.int .u32 z.d.toNat)).setCell ⟨w.heap.size,4,none⟩ (.int .u32 z.e.toNat)).setCell ⟨w.heap.size,5,none⟩ (.int .u32 z.f.toNat)).setCell ⟨w.heap.size,6,none⟩ (.int .u32 z.g.toNat)).setCell ⟨w.heap.size,7,none⟩ (.int .u32 z.h.toNat)):=by
 have hb:∀i:Nat,w.heap.size<=(⟨w.heap.size,i,none⟩:Addr).block:=fun i=>Nat.le_refl _
 refine⟨k+1,by omega,by rw[hr,ext_rest t k hlt], ?_,(((((((q3.setCell (hb _) _).setCell (hb _) _).setCell (hb _) _).setCell (hb _) _).setCell (hb _) _).setCell (hb _) _).setCell (hb _) _).setCell (hb _) _⟩
 have e:dq K t x0 (k+1)=z:=by rw[dq, <-hx,hz,hr,ext_ext t k hlt]
 rw[e]
 exact(((((((q0.set 0 _).set 1 _).set 2 _).set 3 _).set 4 _).set 5 _).set 6 _).set 7 _

def RelO(w:World)(R:Nat)(x:S8)(v i:Value)(wr:World):Prop:=
 ∃j:Nat,j<=8/\i= .int .i64 j/\v= .slice (some ⟨R,0,none⟩) (8*j) 64/\wr.ownsRow w.heap.size 5 1 (.slice (some ⟨R,0,none⟩) (8*j) 64) (8*j) (((x.list.take j).flatMap digs).map C8)/\Below w.heap.size w wr
def RelI(w:World)(R:Nat)(j:Nat)(bs:List UInt8)(y:UInt32)(v i:Value)(wr:World):Prop:=
 ∃m:Nat,m<=8/\i= .int .i64 (28-4*(m:Int))/\v= .slice (some ⟨R,0,none⟩) (8*j+m) 64/\wr.ownsRow w.heap.size 5 1 (.slice (some ⟨R,0,none⟩) (8*j+m) 64) (8*j+m) ((bs++(digs y).take m).map C8)/\Below w.heap.size w wr
theorem gE(y:UInt32):(digs y).length=8:=by simp[digs]
theorem digs_next(bs:List UInt8)(y:UInt32)(m:Nat)(h:m<8):(bs++(digs y).take m).map C8++ [C8 (hexS.getD (nib y m) 0)]=(bs++(digs y).take (m+1)).map C8:=by
 rw[List.take_succ_eq_append_getElem (by rw[gE];exact h)]
 simp[digs]
theorem nib_lt(y:UInt32)(m:Nat):nib y m<16:=Nat.mod_lt _ (by decide)
theorem nib_val(y:UInt32)(m:Nat)(c:Int)(h:c=((y.toNat / 2 ^ (28-4*m):Nat):Int)):bits BinOp.and IntKind.u32 c 15=(nib y m:Int):=by
 have e:y.toNat / 2 ^ (28-4*m)<4294967296:=Nat.lt_of_le_of_lt (Nat.div_le_self _ _) y.toNat_lt
 rw[h]
 unfold nib
 generalize y.toNat / 2 ^ (28-4*m)=q at*
 have:=and_w (UInt32.ofNat q) 15
 rw[UInt32.toNat_ofNat_of_lt' e]at this
 rw[show((15:UInt32).toNat:Int)=15 from rfl]at this
 rw[this,UInt32.toNat_and,UInt32.toNat_ofNat_of_lt' e]
 rw[show(15:UInt32).toNat=2 ^ 4-1 from rfl,Nat.and_two_pow_sub_one_eq_mod]
theorem hexS_at(q:Nat)(h:q<16):(({data:= #[48,49,50,51,52,53,54,55,56,57,97,98,99,100,101,102]}:ByteArray)[q]'h)=hexS.getD q 0:=by
 have:∀q (h:q<16),(({data:= #[48,49,50,51,52,53,54,55,56,57,97,98,99,100,101,102]}:ByteArray)[q]'h)=hexS.getD q 0:=by decide
 exact this q h
theorem own_info:∃i,Tryz.prog.info? 5=some i/\i.size=1:=by
 have h:(Tryz.prog.info? 5).map (·.size)=some 1:=by kernel_rfl
 cases hi:Tryz.prog.info? 5 with
 |none=>rw[hi]at h;cases h
 |some i=>rw[hi]at h;exact⟨i,rfl,by simpa using h⟩

set_option maxHeartbeats 1000000 in
theorem sum_any(K:List UInt32)(t:ByteArray)(w:World)(ht:t.size<140737488355328)(hK:∀i,i<64->w.cell? ⟨0,i,none⟩=some (.int .u32 (K.getD i 0).toNat)):
  Calls Tryz.prog 45 #[.string t] w fun r w'=>r= .returned (.string (sumB K t))/\Below w.heap.size w w':=by
 have HK:=h_ hK
 clear hK
 go_enter Tryz.func45,Tryz.ntmps45
 go_wp2_with fail
 go_loopw [4] (fun v wr=>RelS w K t H0 v wr) (fun v _=>strLen v)
 case atStart=>
  refine⟨0,by omega,by simp,Blk.made rfl rfl,(Below.refl _ _).alloc (Nat.le_refl _) _⟩
 case round=>
  obtain⟨k,hk,rfl,hB,hbl⟩:=hrel
  by_cases hlt:64*k+64<=t.size
  ·obtain⟨r,hr⟩:∃r,r=t.extract (64*k) t.size:=⟨_,rfl⟩
   have hr1:64<=r.size:=by rw[hr];simp;omega
   have hr2:r.size<=t.size:=by rw[hr];simp
   rw[<-hr]
   have HR:=h_ hr
   clear hr
   go_wp2_with fail
   obtain⟨x,hx⟩:∃x,x=dq K t H0 k:=⟨_,rfl⟩
   rw[<-hx]at hB
   have HX:=h_ hx
   clear hx
   have hKr:∀i,i<64->wr.cell? ⟨0,i,none⟩=some (.int .u32 (K.getD i 0).toNat):=fun i hi=>by
    rw[hbl.cell (p:=⟨0,i,none⟩) (World.block_lt_of_cell? w _ (HK.out i hi))];exact HK.out i hi
   have HKR:=h_ hKr
   clear hKr
   generalize ha:Act.mk _ _=a
   have sz:a.tmps.size=52:=by rw[<-ha];rfl
   have s3:a.tmps[3]'(by omega)= .pointer (some ⟨w.heap.size,0,none⟩):=by subst ha;rfl
   have s4:a.tmps[4]'(by omega)= .string r:=by subst ha;rfl
   have HA:=h_ ha
   clear ha
   refine Free.wp_region_free 4 [(3, .det (.agg (Arr (mixS K x (r.extract 0 64)))))] (fun w2=>Blk w2 w.heap.size x.cells 150/\∀i,i<64->w2.cell? ⟨0,i,none⟩=some (.int .u32 (K.getD i 0).toNat)) (by kernel_rfl) (by kernel_rfl) ?_ ⟨hB,HKR.out⟩ (fun _ _ h g=>⟨h.1.below g h.1.lt,fun i hi=>ax (h.2 i hi) g⟩) ?_
   ·intro j mk r hf
    simp only[Free.find]at hf
    repeat' split at hf
    all_goals (first|cases hf|skip)
   ·simp only[List.take_succ_cons,List.take_zero]
    iterate 4 (first|(apply Free.chain_still rfl rfl;(intro w' ⟨hb1,hb2⟩ hA;exact fM rfl (by simp[Act.eval,s3,sz]) hb1 Tryz.underlying150 rfl (by kernel_rfl)))|(apply Free.chain_det rfl rfl;(intro w' ⟨hb1,hb2⟩ hA;refine Free.opRun_call (f:=77) (args:= #[.agg x.cells.toArray, .string (r.extract 0 64)]) (by clear hb2;go_simp) ?_;refine(mixed_any x K (r.extract 0 64) (by simp;omega) _ hb2).mono ?_;rintro e w2 ⟨rfl,hb3⟩;exact⟨_,rfl,hb3,rfl⟩))|(apply Free.chain_still rfl rfl;(intro w' ⟨hb1,hb2⟩ hA;clear hA hb2;go_light;go_simp<;>rfl)))
    apply Free.chain_nil
    intro w2 _ hg _
    have hg':=gS hg
    have q0:=hB.below hg' hB.lt
    have q3:Below w.heap.size w w2:=hbl.trans (hg'.mono hbl.size)
    obtain⟨z,hz⟩:∃z,z=mixS K x (r.extract 0 64):=⟨_,rfl⟩
    rw[<-hz]
    have HZ:=h_ hz
    clear hg hg' s3 s4 sz hz
    have c0:=q0.cellD 0 _ rfl
    have c1:=q0.cellD 1 _ rfl
    have c2:=q0.cellD 2 _ rfl
    have c3:=q0.cellD 3 _ rfl
    have c4:=q0.cellD 4 _ rfl
    have c5:=q0.cellD 5 _ rfl
    have c6:=q0.cellD 6 _ rfl
    have c7:=q0.cellD 7 _ rfl
    have f0:=q0.frozen 0
    have f1:=q0.frozen 1
    have f2:=q0.frozen 2
    have f3:=q0.frozen 3
    have f4:=q0.frozen 4
    have f5:=q0.frozen 5
    have f6:=q0.frozen 6
    have f7:=q0.frozen 7
    simp only[List.drop_succ_cons,List.drop_zero,Arr]
    obtain rfl:=HA.out
    go_wp2
    go_roundw
    case rel=>
     go_light
     exact relS_step hlt HR.out HX.out HZ.out q0 q3
    case measure=>simp[strLen];omega
  ·have hkk:k=t.size / 64:=by omega
   obtain⟨r,hr⟩:∃r,r=t.extract (64*k) t.size:=⟨_,rfl⟩
   have hr1:r.size<64:=by rw[hr];simp;omega
   rw[<-hr]
   have HR:=h_ hr
   have HKK:=h_ hkk
   clear hr hkk hlt
   have hd13:decide ((64:Int)<=(r.size:Int))=false:=by simp;omega
   go_wp2_with (go_at_call 78;refine(padded_any r t.size _ hr1 (by omega)).mono ?_;rintro e w1 ⟨rfl,hw1⟩)
   clear hd13
   obtain⟨p,hp⟩:∃p,p=padB r t.size:=⟨_,rfl⟩
   have hp0:=padB_size r t.size
   rw[<-hp]at hp0⊢
   have hp1:p.size<=128:=by omega
   have HP0:Hid (p.size % 64=0):=by show p.size % 64=0;omega
   clear hp0
   have HP:=h_ hp
   clear hp
   obtain⟨x1,hx1⟩:∃x1,x1=dq K t H0 k:=⟨_,rfl⟩
   rw[<-hx1]at hB
   have HX1:=h_ hx1
   clear hx1
   have hB':=hB.below hw1 hB.lt
   have hbl':Below w.heap.size w w1:=hbl.trans (hw1.mono hbl.size)
   clear hB hbl hw1
   go_loopw [4] (fun v wr=>RelS w K p x1 v wr) (fun v _=>strLen v)
   case atStart=>exact⟨0,by omega,by simp,hB',hbl'⟩
   case round=>
    clear hB' hbl' hr1
    clear hk
    obtain⟨wo,rfl⟩:∃wo:Nat,wo=k:=⟨_,rfl⟩
    obtain⟨k,hk,rfl,hB,hbl⟩:=hrel
    by_cases hlt:64*k+64<=p.size
    ·obtain⟨r,hr⟩:∃r,r=p.extract (64*k) p.size:=⟨_,rfl⟩
     have hr1:64<=r.size:=by rw[hr];simp;omega
     have hr2:r.size<=p.size:=by rw[hr];simp
     have hr3:(64:Int)<=(r.size:Int):=by omega
     rw[<-hr]
     have HR:=h_ hr
     clear hr
     have hne:=full_of r (by omega)
     go_wp2_with fail
     obtain⟨x,hx⟩:∃x,x=dq K p x1 k:=⟨_,rfl⟩
     rw[<-hx]at hB
     have HX:=h_ hx
     clear hx
     have hKr:∀i,i<64->wr.cell? ⟨0,i,none⟩=some (.int .u32 (K.getD i 0).toNat):=fun i hi=>by
      rw[hbl.cell (p:=⟨0,i,none⟩) (World.block_lt_of_cell? w _ (HK.out i hi))];exact HK.out i hi
     have HKR:=h_ hKr
     clear hKr
     generalize ha:Act.mk _ _=a
     have sz:a.tmps.size=52:=by rw[<-ha];rfl
     have s3:a.tmps[3]'(by omega)= .pointer (some ⟨w.heap.size,0,none⟩):=by subst ha;rfl
     have s4:a.tmps[4]'(by omega)= .string r:=by subst ha;rfl
     have HA:=h_ ha
     clear ha
     refine Free.wp_region_free 4 [(3, .det (.agg (Arr (mixS K x (r.extract 0 64)))))] (fun w2=>Blk w2 w.heap.size x.cells 150/\∀i,i<64->w2.cell? ⟨0,i,none⟩=some (.int .u32 (K.getD i 0).toNat)) (by kernel_rfl) (by kernel_rfl) ?_ ⟨hB,HKR.out⟩ (fun _ _ h g=>⟨h.1.below g h.1.lt,fun i hi=>ax (h.2 i hi) g⟩) ?_
     ·intro j mk r hf
      simp only[Free.find]at hf
      repeat' split at hf
      all_goals (first|cases hf|skip)
     ·simp only[List.take_succ_cons,List.take_zero]
      iterate 4 (first|(apply Free.chain_still rfl rfl;(intro w' ⟨hb1,hb2⟩ hA;exact fM rfl (by simp[Act.eval,s3,sz]) hb1 Tryz.underlying150 rfl (by kernel_rfl)))|(apply Free.chain_det rfl rfl;(intro w' ⟨hb1,hb2⟩ hA;refine Free.opRun_call (f:=77) (args:= #[.agg x.cells.toArray, .string (r.extract 0 64)]) (by clear hb2;go_simp) ?_;refine(mixed_any x K (r.extract 0 64) (by simp;omega) _ hb2).mono ?_;rintro e w2 ⟨rfl,hb3⟩;exact⟨_,rfl,hb3,rfl⟩))|(apply Free.chain_still rfl rfl;(intro w' ⟨hb1,hb2⟩ hA;clear hA hb2;go_light;go_simp<;>rfl)))
      apply Free.chain_nil
      intro w2 _ hg _
      have hg':=gS hg
      have q0:=hB.below hg' hB.lt
      have q3:Below w.heap.size w w2:=hbl.trans (hg'.mono hbl.size)
      obtain⟨z,hz⟩:∃z,z=mixS K x (r.extract 0 64):=⟨_,rfl⟩
      rw[<-hz]
      have HZ:=h_ hz
      clear hg hg' s3 s4 sz hz
      have c0:=q0.cellD 0 _ rfl
      have c1:=q0.cellD 1 _ rfl
      have c2:=q0.cellD 2 _ rfl
      have c3:=q0.cellD 3 _ rfl
      have c4:=q0.cellD 4 _ rfl
      have c5:=q0.cellD 5 _ rfl
      have c6:=q0.cellD 6 _ rfl
      have c7:=q0.cellD 7 _ rfl
      have f0:=q0.frozen 0
      have f1:=q0.frozen 1
      have f2:=q0.frozen 2
      have f3:=q0.frozen 3
      have f4:=q0.frozen 4
      have f5:=q0.frozen 5
      have f6:=q0.frozen 6
      have f7:=q0.frozen 7
      simp only[List.drop_succ_cons,List.drop_zero,Arr]
      obtain rfl:=HA.out
      go_wp2
      go_roundw
      case rel=>
       go_light
       exact relS_step hlt HR.out HX.out HZ.out q0 q3
      case measure=>simp[strLen];omega
    ·have hkk:k=p.size / 64:=by omega
     have hpe:(p.extract (64*k) p.size).size=0:=by have:=HP0.out;simp;omega
     have hne:=empty_of _ hpe
     have HKP:=h_ hkk
     clear hkk hpe hlt hk
     obtain⟨x,hx⟩:∃x,x=dq K p x1 k:=⟨_,rfl⟩
     rw[<-hx]at hB
     have HX:=h_ hx
     clear hx
     obtain⟨e,he⟩:∃e,e=p.extract (64*k) p.size:=⟨_,rfl⟩
     rw[<-he]at hne⊢
     have HE:=h_ he
     clear he
     have hmk:∀w:World,(Instr.makeSlice 153 (.int .i64 0) (.int .i64 64)).run Tryz.prog w= .ok (.slice (some ⟨w.heap.size,0,none⟩) 0 64) (w.alloc (.cells (Array.replicate 64 (.int .u8 0)) 5)):=fun _=>by kernel_rfl
     have G0:Hid (∀o,(wr.alloc o).heap[w.heap.size]? =some (.cells #[.int .u32 x.a.toNat, .int .u32 x.b.toNat, .int .u32 x.c.toNat, .int .u32 x.d.toNat, .int .u32 x.e.toNat, .int .u32 x.f.toNat, .int .u32 x.g.toNat, .int .u32 x.h.toNat] 150 (0,0))):=fun o=>hB.alloc o
     go_wp2_with (refine wpList_load_row rfl 150 _ rfl _ rfl 150 _ (0,0) _ (G0.out _) Tryz.underlying150 rfl (by kernel_rfl) ?_)
     obtain⟨R,hR⟩:∃R,R=wr.heap.size:=⟨_,rfl⟩
     have hR1:w.heap.size<R:=by rw[hR];exact hB.lt
     have hown0:(wr.alloc (.cells (Array.replicate 64 (.int .u8 0)) 5)).ownsRow w.heap.size 5 1 (.slice (some ⟨R,0,none⟩) 0 64) 0 []:=by
      rw[hR];exact World.ownsRow_made wr _ 64 (by omega) (by unfold maxLen;omega) (by simp)
     rw[<-hR]
     have hbl1:=hbl.alloc hbl.size (.cells (Array.replicate 64 (.int .u8 0)) 5)
     clear hB hbl hmk G0 hR
     go_loopw [5,34] (fun v i wr=>RelO w R x v i wr) (fun _ i _=>8- (intOf i).toNat)
     case atStart=>exact⟨0,by omega,rfl,rfl,hown0,hbl1⟩
     case round=>
      clear hown0 hbl1
      obtain⟨j,hj,rfl,rfl,hown,hbl⟩:=hrel
      by_cases hlt:j<8
      ·have hidx:∀wx:World,(Instr.index 150 (.agg #[.int .u32 x.a.toNat, .int .u32 x.b.toNat, .int .u32 x.c.toNat, .int .u32 x.d.toNat, .int .u32 x.e.toNat, .int .u32 x.f.toNat, .int .u32 x.g.toNat, .int .u32 x.h.toNat]) (.int .i64 j)).run Tryz.prog wx= .ok (.int .u32 (x.list.getD j 0).toNat) wx:=fun wx=>idx8 (x.list.map W).toArray j (.int .u32 (x.list.getD j 0).toNat) (by
        rw[List.getElem?_toArray,List.getElem?_map,list_at x j hlt];rfl) hlt wx
       obtain⟨y,hy⟩:∃y,y=x.list.getD j 0:=⟨_,rfl⟩
       rw[<-hy]at hidx
       have HY:=h_ hy
       clear hy
       have hd35:decide ((j:Int)<8)=true:=by simp;omega
       go_wp2_with fail
       clear hidx hd35
       obtain⟨bs,hbs⟩:∃bs,bs=(x.list.take j).flatMap digs:=⟨_,rfl⟩
       rw[<-hbs]at hown
       have HBS:=h_ hbs
       clear hbs
       obtain⟨wo,rfl⟩:∃wo:World,wo=wr:=⟨_,rfl⟩
       go_loopw [5,8] (fun v i wr=>RelI w R j bs y v i wr) (fun _ i _=>(4+intOf i).toNat)
       case atStart=>exact⟨0,by omega,rfl,rfl,by simpa using hown,hbl⟩
       case round=>
        clear hown hbl
        obtain⟨m,hm,rfl,rfl,hown,hbl⟩:=hrel
        by_cases hlm:m<8
        ·have i1:(0:Int)<=28-4*(m:Int):=by omega
         have i2:(28-4*(m:Int)).toNat=28-4*m:=by omega
         have i3:(m:Int)<=7:=by omega
         have hq:=nib_val y m _ (show((y.toNat:Int) / 2 ^ (28-4*m))=_ by norm_cast)
         have hq1:=nib_lt y m
         obtain⟨q,eq⟩:∃q,q=nib y m:=⟨_,rfl⟩
         rw[<-eq]at hq hq1
         have HQ:=h_ eq
         clear eq
         have hq2:(q:Int)<16:=by omega
         obtain⟨d,ed⟩:∃d,d=hexS.getD q 0:=⟨_,rfl⟩
         have hh:=hexS_at q hq1
         rw[<-ed]at hh
         have HD:=h_ ed
         clear ed
         obtain⟨cs,ecs⟩:∃cs,cs=(bs++(digs y).take m).map C8:=⟨_,rfl⟩
         rw[<-ecs]at hown
         have HCS:=h_ ecs
         clear ecs
         obtain⟨i0,hi0,hi1⟩:=own_info
         have hlw:=hbl.size
         go_wp2_with (at_builtin;refine wpList_append_fits _ rfl _ _ 153 rfl w.heap.size 5 i0 1 Tryz.underlying153 hi0 hi1 R (8*j+m) 64 cs rfl (hown.alloc _) ⟨wr.heap.size,0,none⟩ 1 1 [.int .u8 d.toNat] rfl rfl ?c1 ?c2 (by omega) ?_)
         case c1=>exact cell_one_new _ _ _
         case c2=>simp[Value.oneCell']
         intro w3 hown3 hgr3
         go_wp2
         go_roundw
         case rel=>
          go_light
          have key:RelI w R j bs y (.slice (some ⟨R,0,none⟩) (8*j+m+1) 64) (.int .i64 (28-4*(m:Int)-4)) w3:=by
           refine⟨m+1,by omega,by congr 1;omega,by rw[Nat.add_assoc], ?_, ?_⟩
           ·rw[<-digs_next bs y m hlm, <-HCS.out, <-HQ.out, <-HD.out, <-Nat.add_assoc];exact hown3
           ·exact(hbl.alloc hlw _).grown hgr3 (by simp;omega) (fun k hk=>by cases hk;omega)
          first|exact key|((repeat apply Exists.intro);exact⟨key,rfl⟩)
         case measure=>simp[intOf];omega
        ·obtain rfl:m=8:=by omega
         clear hlm hm
         go_wp2
         go_roundw
         case rel=>
          go_light
          have key:RelO w R x (.slice (some ⟨R,0,none⟩) (8*j+8) 64) (.int .i64 (↑j+1)) wr:=by
           refine⟨j+1,by omega,by go_num,by congr 1, ?_,hbl⟩
           have e:(x.list.take (j+1)).flatMap digs=bs++(digs y).take 8:=by
            rw[List.take_succ_eq_append_getElem (by simpa[S8.list]using hlt),List.flatMap_append, <-HBS.out,List.take_of_length_le (by rw[gE];omega)]
            have:x.list[j]'(by simpa[S8.list]using hlt)=y:=by rw[HY.out,List.getD_eq_getElem?_getD,List.getElem?_eq_getElem (by simpa[S8.list]using hlt)];rfl
            rw[this];simp
           rw[e,show 8*(j+1)=8*j+8 by omega];exact hown
          first|exact key|((repeat apply Exists.intro);exact⟨key,rfl⟩)
         case measure=>simp[intOf];omega
      ·obtain rfl:j=8:=by omega
       clear hlt hj
       have hL:(x.list.take 8).flatMap digs=hexOf x:=by rw[List.take_of_length_le (by simp[S8.list])];rfl
       rw[hL]at hown
       have hlen:(hexOf x).length=64:=by simp[hexOf,S8.list,gE]
       obtain⟨_,hown2⟩:=hown
       rcases hown2 with⟨h1,_⟩|⟨g,cap,cur,h1,_,hcur,_,_,_,htk⟩
       ·cases h1
       ·cases h1
        have hcv':(convert 153 9 (.slice (some ⟨R,0,none⟩) 64 64)).run Tryz.prog wr= .ok (.string ⟨(hexOf x).toArray⟩) wr:=by
         have:=conv_bytes (P:=Tryz.prog) (cap:=64) (hexOf x) Tryz.underlying153 Tryz.underlying5 Tryz.underlying9 (show Blk wr R cur.toList 5 by unfold Blk;simpa using hcur) (fun j hj=>by
          have h2:(cur.toList.take (8*8*1))[j]? =((hexOf x).map C8)[j]? :=by rw[htk]
          rw[List.getElem?_take_of_lt (by omega),List.getElem?_map,List.getElem?_eq_getElem hj]at h2
          exact h2)
         rw[hlen]at this
         exact this
        clear hcur htk hL hlen
        go_wp2
        go_ret
        exact⟨by rw[sumB, <-HKK.out, <-HR.out, <-HP.out, <-HKP.out, <-HX1.out, <-HX.out];rfl,hbl⟩
end Go.Proofs.YtekfoaenomgjgaaGreatDoor
namespace Go.Apk
open Go
variable {P:Program} (w:World)
theorem foldl_set:∀(l:List Value) (k:Nat) (Z:Array Value),k+l.length<=Z.size->((l.zipIdx k).foldl (fun cs (p:Value×Nat)=>cs.setIfInBounds (0+p.2) p.1) Z).toList=Z.toList.take k++l++Z.toList.drop (k+l.length)
 | [],k,Z,_=>by simp
 |x::r,k,Z,h=>by
  simp only[List.zipIdx_cons,List.foldl_cons]
  have h2:k+1+r.length<=(Z.setIfInBounds (0+k) x).size:=by simp at h⊢;omega
  rw[foldl_set r (k+1) _ h2]
  have hk:k<Z.toList.length:=by simp at h⊢;omega
  simp only[Nat.zero_add,Array.toList_setIfInBounds,List.length_cons]
  rw[List.take_add_one,List.take_set_of_le (Nat.le_refl _),List.getElem?_set_self hk,List.drop_set_of_lt (by omega)]
  simp only[Option.toList_some,List.append_assoc,List.cons_append,List.nil_append]
  rw[show k+1+r.length=k+(r.length+1) by omega]
theorem run_slice_one(t e:TypeId)(i:TypeInfo)(z:Value)(ht:P.underlying t=some (.slice e))(hi:P.info? e=some i)(hz:i.zero=some z)(E:Array Value)(hE:E.size=i.size)(hs0:0<i.size)(hs1:i.size<=16777216):
  (Instr.buildSlice t 1 #[(0, .agg E)]).run P w= .ok (.slice (some ⟨w.heap.size,0,none⟩) 1 1) (w.alloc (.cells E e)):=by
 have hfill:Instr.fill (fun j=>some (j*i.size,i.size)) ((Array.range (1*i.size)).map (z.cells[· % z.cells.size]!)) [(0, .agg E)]=some E:=by
  unfold Instr.fill
  simp only[Nat.zero_mul,Value.cells]
  rw[if_neg (by simp[hE])]
  unfold Instr.fill
  congr 1
  apply Array.ext'
  have:=foldl_set E.toList 0 ((Array.range (1*i.size)).map (z.cells[· % z.cells.size]!)) (by simp;omega)
  rw[<-Array.foldl_toList,Array.toList_zipIdx]
  refine Eq.trans ?_ (this.trans ?_)
  ·rfl
  ·simp;omega
 have h0: ¬(1*i.size>2 ^ 24):=by omega
 have h1: ¬(1*i.size=0):=by omega
 have hsz:(sizeOf e).run P w= .ok i.size w:=by simp[sizeOf,typeInfo,hi]
 have hzv:(zeroValue e).run P w= .ok z w:=by simp[zeroValue,typeInfo,hi,hz]
 simp only[Instr.buildSlice,Sem.run_bind,run_underlying ht,hsz,Result.andThen_ok,if_neg h0,if_neg h1,hzv,Sem.run_pure,hfill]
 rfl
end Go.Apk
