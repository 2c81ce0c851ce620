/- Blocks of cells that are known whole: what a load, a store, a new block and a call that keeps old memory do to them. No condition. -/
import Derived.WalkKit
import Derived.Test.YtekfoaenomgjgaaGreatDoorRows
import Derived.Lib.Hide
import Derived.WalkSpells
import Derived.WalkLawsBesides
import Derived.Laws.IdiomStrings
import Derived.Deep.QuietTactic
set_option linter.all false
namespace Go.W32
open Go

theorem dI(n:Int):IntKind.u32.wrap n=n % 4294967296:=by simp[IntKind.wrap,IntKind.bits,IntKind.signed]
theorem add_w(a b:UInt32):IntKind.u32.wrap ((a.toNat:Int)+(b.toNat:Int))=((a+b).toNat:Int):=by
 rw[dI,UInt32.toNat_add];omega
theorem bZ(a:UInt32):BitVec.ofInt 32 (a.toNat:Int)=a.toBitVec:=by
 apply BitVec.eq_of_toNat_eq
 rw[BitVec.ofInt_natCast,BitVec.toNat_ofNat]
 have:=a.toNat_lt
 exact Nat.mod_eq_of_lt this
theorem gv(a:UInt32):IntKind.u32.wrap (a.toNat:Int)=(a.toNat:Int):=by
 rw[dI];have:=a.toNat_lt;omega
theorem xor_w(a b:UInt32):bits .xor .u32 (a.toNat:Int) (b.toNat:Int)=((a ^^^ b).toNat:Int):=by
 show IntKind.u32.wrap ((BitVec.ofInt 32 (a.toNat:Int) ^^^ BitVec.ofInt 32 (b.toNat:Int)).toNat:Int)=_
 rw[bZ,bZ];exact gv (a ^^^ b)
theorem and_w(a b:UInt32):bits .and .u32 (a.toNat:Int) (b.toNat:Int)=((a&&&b).toNat:Int):=by
 show IntKind.u32.wrap ((BitVec.ofInt 32 (a.toNat:Int)&&&BitVec.ofInt 32 (b.toNat:Int)).toNat:Int)=_
 rw[bZ,bZ];exact gv (a&&&b)
theorem or_w(a b:UInt32):bits .or .u32 (a.toNat:Int) (b.toNat:Int)=((a|||b).toNat:Int):=by
 show IntKind.u32.wrap ((BitVec.ofInt 32 (a.toNat:Int)|||BitVec.ofInt 32 (b.toNat:Int)).toNat:Int)=_
 rw[bZ,bZ];exact gv (a|||b)
theorem shr_w(a:UInt32)(n:Nat)(h:n<32):(a.toNat:Int) / 2 ^ n=((a>>>UInt32.ofNat n).toNat:Int):=by
 have e:(UInt32.ofNat n).toNat % 32=n:=by
  rw[UInt32.toNat_ofNat_of_lt' (by show n<2^32;omega)];omega
 rw[UInt32.toNat_shiftRight,e,Nat.shiftRight_eq_div_pow]
 norm_cast
theorem shl_w(a:UInt32)(n:Nat)(h:n<32):IntKind.u32.wrap ((a.toNat:Int)*2 ^ n)=((a <<<UInt32.ofNat n).toNat:Int):=by
 have e:(UInt32.ofNat n).toNat % 32=n:=by
  rw[UInt32.toNat_ofNat_of_lt' (by show n<2^32;omega)];omega
 rw[dI,UInt32.toNat_shiftLeft,e,Nat.shiftLeft_eq]
 have q:(a.toNat:Int)*2 ^ n=((a.toNat*2 ^ n:Nat):Int):=by push_cast;rfl
 rw[q]
 generalize a.toNat*2 ^ n=m
 omega
def rotr(x:UInt32)(d:Nat):UInt32:=(x <<<UInt32.ofNat (32-d))|||(x>>>UInt32.ofNat d)
end Go.W32
namespace Go.Proofs.YtekfoaenomgjgaaGreatDoor
open Go.RowKit Go.W32

theorem and31(d:Nat)(h0:0<d)(h:d<32):bits BinOp.and IntKind.u64 (IntKind.u64.wrap (-(d:Int))) 31=((32-d:Nat):Int):=by
 have key:∀d:Nat,d<32->0<d->bits BinOp.and IntKind.u64 (IntKind.u64.wrap (-(d:Int))) 31=((32-d:Nat):Int):=by decide+kernel
 exact key d h h0
theorem ret_u32{a b:Int}(h:a=b):Ending.returned (.int .u32 a)= .returned (.int .u32 b):=by rw[h]
theorem rot_eq(x:UInt32)(c d:Nat)(h:c=32-d)(h0:0<d)(hd:d<32):bits BinOp.or IntKind.u32 ((x.toNat:Int)*2 ^ c % 4294967296) ((x.toNat:Int) / 2 ^ (32-c))=((rotr x d).toNat:Int):=by
 have h2:32-c=d:=by omega
 rw[<-dI,shl_w x c (by omega),h2,shr_w x d hd,or_w,rotr,h]
set_option maxHeartbeats 400000 in
theorem rotl_any(x:UInt32)(d:Nat)(h0:0<d)(hd:d<32)(w:World):
  Calls Tryz.prog 152 #[.int .u32 x.toNat, .int .i64 (-(d:Int))] w fun e w'=>e= .returned (.int .u32 (rotr x d).toNat)/\w=w':=by
 have h1:=and31 d h0 hd
 obtain⟨c,hc⟩:∃c:Nat,c=32-d:=⟨_,rfl⟩
 rw[<-hc]at h1
 have hc1:c<32:=by omega
 have hc2:0<c:=by omega
 have H:=Lib.hid hc
 clear hc
 go_enter Tryz.func152,Tryz.ntmps152
 go_wp2
 go_ret
 exact⟨ret_u32 (rot_eq x c d H.out h0 hd),rfl⟩

def rots(x:UInt32)(l:List Nat):UInt32:=l.foldl (fun r d=>r ^^^ rotr x d) 0
theorem rots_snoc(x:UInt32)(l:List Nat)(k:Nat)(h:k<l.length):rots x (l.take (k+1))=rots x (l.take k) ^^^ rotr x l[k]:=by
 rw[List.take_succ_eq_append_getElem h,rots,List.foldl_append];rfl
theorem xor_w'(a b:UInt32):Value.int .u32 (bits .xor .u32 (a.toNat:Int) (b.toNat:Int))=Value.int .u32 ((a ^^^ b).toNat:Int):=by rw[xor_w]
set_option maxHeartbeats 400000 in
theorem gI(x:UInt32)(b:Nat)(l:List Nat)(w:World)(hl:l.length<=100)(hd:∀d∈l,0<d/\d<32)
  (hc:∀k (h:k<l.length),w.cell? ⟨b,k,none⟩=some (.int .i64 (l[k]:Int))):
  Calls Tryz.prog 112 #[.int .u32 x.toNat, .slice (some ⟨b,0,none⟩) l.length l.length] w fun e w'=>e= .returned (.int .u32 (rots x l).toNat)/\w=w':=by
 have HC:=Lib.hid hc
 clear hc
 go_enter Tryz.func112,Tryz.ntmps112
 go_wp2
 go_loop [5,7,10] (fun r _ i=> ∃k:Nat,k<=l.length/\i= .int .i64 k/\r= .int .u32 (rots x (l.take k)).toNat) (fun _ _ i=>l.length- (intOf i).toNat)
 case atStart=>exact⟨0,Nat.zero_le _,rfl,rfl⟩
 case round=>
  obtain⟨k,hk,rfl,rfl⟩:=hrel
  by_cases hlt:k<l.length
  ·have hcell:=HC.out k hlt
   have hdk:=hd l[k] (List.getElem_mem _)
   have HS:=Lib.hid (rots_snoc x l k hlt)
   go_wp2_with (go_at_call 152;refine(rotl_any x _ hdk.1 hdk.2 _).mono ?_;rintro e w' ⟨rfl,rfl⟩)
   go_round
   case rel=>exact⟨k+1,by omega,by go_num,by rw[HS.out, <-xor_w']⟩
   case measure=>simp[intOf];omega
  ·go_wp2
   go_ret
   exact⟨by rw[List.take_of_length_le (by omega)];rfl,rfl⟩

end Go.Proofs.YtekfoaenomgjgaaGreatDoor
namespace Go
theorem Pt1{α:Type}(l:List α)(i:Nat)(a:α):l.toArray.setIfInBounds i a=(l.set i a).toArray:=List.setIfInBounds_toArray ..
theorem Pt2{α:Type}{a b:α}{l:List α}{i:Nat}:(a::l).set (i+1) b=a::l.set i b:=List.set_cons_succ
theorem Pt3{α:Type}{a b:α}{l:List α}:(a::l).set 0 b=b::l:=List.set_cons_zero
theorem h_{p:Prop}(h:p):RowKit.Hid p:=h
theorem Pt:(∀(a:Act) (d:Tmp) (v:Value),a.put (some d) v= {a with tmps:=a.tmps.setIfInBounds d v})/\(∀(a:Act) (v:Value),a.put none v=a)/\(∀ {α:Type} (l:List α) (i:Nat) (a:α),l.toArray.setIfInBounds i a=(l.set i a).toArray)/\(∀ {α:Type} {a b:α} {l:List α} {i:Nat},(a::l).set (i+1) b=a::l.set i b)/\(∀ {α:Type} {a b:α} {l:List α},(a::l).set 0 b=b::l):=
 ⟨fun _ _ _=>rfl,fun _ _=>rfl,Pt1,Pt2,Pt3⟩
end Go
namespace Go.Blk
open Go Go.RowKit
def Blk(w:World)(b:Nat)(cs:List Value)(T:TypeId):Prop:=w.heap[b]? =some (.cells cs.toArray T (0,0))

theorem Blk.lt{w:World}{b:Nat}{cs:List Value}{T:TypeId}(h:Blk w b cs T):b<w.heap.size:=by
 unfold Blk at h
 exact(Array.getElem?_eq_some_iff.1 h).1
theorem Blk.cell{w:World}{b:Nat}{cs:List Value}{T:TypeId}(h:Blk w b cs T)(i:Nat)(hi:i<cs.length):w.cell? ⟨b,i,none⟩=some cs[i]:=by
 unfold Blk at h
 simp[World.cell?,h,hi]
theorem Blk.cellD{w:World}{b:Nat}{cs:List Value}{T:TypeId}(h:Blk w b cs T)(i:Nat)(v:Value)(hi:cs[i]? =some v):w.cell? ⟨b,i,none⟩=some v:=by
 obtain⟨hl,rfl⟩:=List.getElem?_eq_some_iff.1 hi
 exact h.cell i hl
theorem Blk.frozen{w:World}{b:Nat}{cs:List Value}{T:TypeId}(h:Blk w b cs T)(i:Nat):w.frozen? ⟨b,i,none⟩=false:=by
 unfold Blk at h
 simp[World.frozen?,h]
theorem Blk.set{w:World}{b:Nat}{cs:List Value}{T:TypeId}(h:Blk w b cs T)(i:Nat)(v:Value):Blk (w.setCell ⟨b,i,none⟩ v) b (cs.set i v) T:=by
 unfold Blk at*
 simp only[World.setCell,Array.getElem?_modify,if_true,h,Option.map_some]
 simp
theorem Blk.set_ne{w:World}{b:Nat}{cs:List Value}{T:TypeId}(h:Blk w b cs T){a:Addr}(ha:a.block≠b)(v:Value):Blk (w.setCell a v) b cs T:=by
 unfold Blk at*
 rw[Below.heap_setCell _ _ _ _ (Ne.symm ha)];exact h
theorem Blk.alloc{w:World}{b:Nat}{cs:List Value}{T:TypeId}(h:Blk w b cs T)(o:Obj):Blk (w.alloc o) b cs T:=by
 have:=h.lt
 unfold Blk at*
 rw[Below.heap_alloc _ _ _ this];exact h
theorem Blk.new(w:World)(cs:List Value)(T:TypeId):Blk (w.alloc (.cells cs.toArray T (0,0))) w.heap.size cs T:=by
 show(w.heap.push _)[w.heap.size]? =_
 simp
theorem Blk.newA(w:World)(cs:Array Value)(T:TypeId):Blk (w.alloc (.cells cs T (0,0))) w.heap.size cs.toList T:=by
 show(w.heap.push _)[w.heap.size]? =_
 simp
theorem Blk.made{w:World}{b:Nat}{l:List Value}{cs:Array Value}{T:TypeId}(hb:b=w.heap.size)(hl:cs.toList=l):Blk (w.alloc (.cells cs T (0,0))) b l T:=by
 subst hb;subst hl;exact Blk.newA w cs T
theorem Blk.drew{w:World}{b:Nat}{cs:List Value}{T:TypeId}(h:Blk w b cs T):Blk w.drew b cs T:=h
theorem Blk.drewN{w:World}{b:Nat}{cs:List Value}{T:TypeId}(h:Blk w b cs T)(n:Nat):Blk (w.drewN n) b cs T:=h
theorem Blk.below{w w':World}{b B:Nat}{cs:List Value}{T:TypeId}(h:Blk w b cs T)(hb:Below B w w')(hB:b<B):Blk w' b cs T:=by
 unfold Blk at*
 rw[hb.block b hB];exact h
def C8(x:UInt8):Value:= .int .u8 x.toNat
theorem addr_add(b o j:Nat):(⟨b,o,none⟩:Addr).add j=⟨b,o+j,none⟩:=by unfold Addr.add;split<;>simp_all
theorem conv_bytes{P:Program}{w:World}{src dst e:TypeId}{b cap:Nat}{cs:List Value}{T:TypeId}(l:List UInt8)(hs:P.underlying src=some (.slice e))(he:P.underlying e=some (.int .u8))(hd:P.underlying dst=some .string)
  (hb:Blk w b cs T) (hl:∀j (hj:j<l.length),cs[j]? =some (C8 l[j])):(convert src dst (.slice (some ⟨b,0,none⟩) l.length cap)).run P w= .ok (.string ⟨l.toArray⟩) w:=
 run_convert_bytes_back (P:=P) w src dst e ⟨b,0,none⟩ cap l hs he hd (fun j hj=>by rw[addr_add,Nat.zero_add];exact hb.cellD j _ (hl j hj))

end Go.Blk
