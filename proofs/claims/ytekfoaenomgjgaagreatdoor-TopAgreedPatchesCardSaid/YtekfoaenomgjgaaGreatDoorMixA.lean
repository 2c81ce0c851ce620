/- Plain mathematics of one block of SHA-256, and the relations of the loops of digest.mixed. No condition. -/
import Derived.Test.YtekfoaenomgjgaaGreatDoorZ1
import Derived.Test.YtekfoaenomgjgaaGreatDoorFree
import Derived.WalkKit
import Derived.Lib.Hide
set_option linter.all false
namespace Go.Proofs.YtekfoaenomgjgaaGreatDoor
open Go.RowKit Go.W32 Go.Blk

def W(x:UInt32):Value:= .int .u32 x.toNat
def be4(a b c d:UInt8):UInt32:=a.toUInt32 <<<24|||b.toUInt32 <<<16|||c.toUInt32 <<<8|||d.toUInt32
def be(s:ByteArray)(k:Nat):UInt32:=be4 (s.data.getD (4*k) 0) (s.data.getD (4*k+1) 0) (s.data.getD (4*k+2) 0) (s.data.getD (4*k+3) 0)
theorem be_eq(a b c d:UInt8):bits BinOp.or IntKind.u32
       (bits BinOp.or IntKind.u32
        (bits BinOp.or IntKind.u32
         (IntKind.u32.wrap (IntKind.u32.wrap ↑a.toNat*16777216))
         (IntKind.u32.wrap (IntKind.u32.wrap ↑b.toNat*65536)))
        (IntKind.u32.wrap (IntKind.u32.wrap ↑c.toNat*256)))
       (IntKind.u32.wrap ↑d.toNat)=((be4 a b c d).toNat:Int):=by
 have e (x:UInt8):IntKind.u32.wrap ↑x.toNat=(x.toUInt32.toNat:Int):=by
  rw[dI];have:=x.toNat_lt;simp;omega
 rw[e,e,e,e]
 have h24:=shl_w a.toUInt32 24 (by omega)
 have h16:=shl_w b.toUInt32 16 (by omega)
 have h8:=shl_w c.toUInt32 8 (by omega)
 simp only[show(2:Int)^24=16777216 from rfl,show(2:Int)^16=65536 from rfl,show(2:Int)^8=256 from rfl]at h24 h16 h8
 rw[h24,h16,h8,or_w,or_w,or_w]
 rfl
theorem be_get(s:ByteArray)(hs:s.size=64)(k:Nat)(hk:k<16)(i:Nat)(hi:i<4)(h:i<(s.extract (4*k) (4*k+4)).size):(s.extract (4*k) (4*k+4))[i]=s.data.getD (4*k+i) 0:=by
 rw[ByteArray.getElem_extract,Array.getD_eq_getD_getElem?,Array.getElem?_eq_getElem (by show 4*k+i<s.size;omega)]
 rfl
theorem be_all(s:ByteArray)(hs:s.size=64)(k:Nat)(hk:k<16)(h:(s.extract (4*k) (4*k+4)).size=4):bits BinOp.or IntKind.u32
           (bits BinOp.or IntKind.u32
            (bits BinOp.or IntKind.u32
             (↑(s.extract (4*k) (4*k+4))[0].toNat % 4294967296*16777216 % 4294967296)
             (↑(s.extract (4*k) (4*k+4))[1].toNat % 4294967296*65536 % 4294967296))
            (↑(s.extract (4*k) (4*k+4))[2].toNat % 4294967296*256 % 4294967296))
           (↑(s.extract (4*k) (4*k+4))[3].toNat % 4294967296)=((be s k).toNat:Int):=by
 have:=be_eq (s.data.getD (4*k+0) 0) (s.data.getD (4*k+1) 0) (s.data.getD (4*k+2) 0) (s.data.getD (4*k+3) 0)
 simp only[dI]at this
 rw[be_get s hs k hk 0 (by omega),be_get s hs k hk 1 (by omega),be_get s hs k hk 2 (by omega),be_get s hs k hk 3 (by omega)]
 exact this

theorem set_next{α:Type}{f:Nat->α}{k:Nat}{ws:List α}(h:∀j,j<k->ws[j]? =some (f j))(hk:k<ws.length):∀j,j<k+1->(ws.set k (f k))[j]? =some (f j):=by
 intro j hj
 by_cases e:j=k
 ·subst e;simp[hk]
 ·rw[List.getElem?_set_ne (by omega)];exact h j (by omega)


theorem evs(a:Act)(d:Nat)(v:Value)(h:d<a.tmps.size):(a.put (some d) v).eval (.tmp d)=v:=by simp[Act.put,Act.eval,h]
theorem evn(a:Act)(d t:Nat)(v:Value)(h:d≠t):(a.put (some d) v).eval (.tmp t)=a.eval (.tmp t):=by simp[Act.put,Act.eval,Array.getElem?_setIfInBounds_ne h]
theorem psz(a:Act)(d:Option Nat)(v:Value):(a.put d v).tmps.size=a.tmps.size:=by cases d<;>simp[Act.put]
attribute [local go_sem] evs evn psz
theorem rot2(x:UInt32)(b:Nat)(d1 d2:Nat)(w:World)(h1:0<d1/\d1<32)(h2:0<d2/\d2<32)(c1:w.cell? ⟨b,0,none⟩=some (.int .i64 (d1:Int)))(c2:w.cell? ⟨b,1,none⟩=some (.int .i64 (d2:Int))):
  Calls Tryz.prog 112 #[.int .u32 x.toNat, .slice (some ⟨b,0,none⟩) 2 2] w fun e w'=>e= .returned (.int .u32 (rots x [d1,d2]).toNat)/\w=w':=
 gI x b [d1,d2] w (by simp) (by simp[h1,h2]) (fun k hk=>by
  match k,hk with
  |0,_=>exact c1
  |1,_=>exact c2)
theorem rot3(x:UInt32)(b:Nat)(d1 d2 d3:Nat)(w:World)(h1:0<d1/\d1<32)(h2:0<d2/\d2<32)(h3:0<d3/\d3<32)(c1:w.cell? ⟨b,0,none⟩=some (.int .i64 (d1:Int)))(c2:w.cell? ⟨b,1,none⟩=some (.int .i64 (d2:Int)))(c3:w.cell? ⟨b,2,none⟩=some (.int .i64 (d3:Int))):
  Calls Tryz.prog 112 #[.int .u32 x.toNat, .slice (some ⟨b,0,none⟩) 3 3] w fun e w'=>e= .returned (.int .u32 (rots x [d1,d2,d3]).toNat)/\w=w':=
 gI x b [d1,d2,d3] w (by simp) (by simp[h1,h2,h3]) (fun k hk=>by
  match k,hk with
  |0,_=>exact c1
  |1,_=>exact c2
  |2,_=>exact c3)

def sg0(x:UInt32):UInt32:=rots x [7,18] ^^^ (x>>>3)
def sg1(x:UInt32):UInt32:=rots x [17,19] ^^^ (x>>>10)
def nextW(l:List UInt32):UInt32:=l.getD (l.length-16) 0+sg0 (l.getD (l.length-15) 0)+l.getD (l.length-7) 0+sg1 (l.getD (l.length-2) 0)
def extW:Nat->List UInt32->List UInt32
 |0,l=>l
 |n+1,l=>extW n l++ [nextW (extW n l)]
def bO(s:ByteArray):List UInt32:=(List.range 16).map (be s)
theorem first16_len(s:ByteArray):(bO s).length=16:=by simp[bO]
theorem extW_len(n:Nat)(l:List UInt32):(extW n l).length=l.length+n:=by
 induction n with
 |zero=>rfl
 |succ n ih=>simp[extW,ih];omega
theorem first16_of{ws:List UInt32}{s:ByteArray}(hl:ws.length=64)(h:∀j,j<16->ws[j]? =some (be s j)):ws.take 16=bO s:=by
 apply List.ext_getElem?
 intro i
 by_cases hi:i<16
 ·rw[List.getElem?_take_of_lt hi,h i hi];simp[bO,hi]
 ·rw[List.getElem?_eq_none (by simp;omega),List.getElem?_eq_none (by simp[bO];omega)]
theorem fE{ws l:List UInt32}{t i:Nat}(h:ws.take t=l)(hl:l.length=t)(hi:i<t):ws[i]? =some (l.getD i 0):=by
 rw[<-List.getElem?_take_of_lt hi,h,List.getD_eq_getElem?_getD,List.getElem?_eq_getElem (by omega)];rfl
theorem take_set{ws l:List UInt32}{t:Nat}(v:UInt32)(h:ws.take t=l)(ht:t<ws.length):(ws.set t v).take (t+1)=l++ [v]:=by
 rw[List.take_succ_eq_append_getElem (by simpa using ht),List.take_set_of_le (Nat.le_refl _),h];simp


theorem grow_drewN{w w2:World}{n:Nat}(h:Free.Grow (w.drewN n).drew w2):Below w.heap.size w w2:=⟨h.os,h.tape,h.output,h.size,h.block⟩
theorem gS{w w2:World}(h:Free.Grow w.drew w2):Below w.heap.size w w2:=⟨h.os,h.tape,h.output,h.size,h.block⟩
theorem ax{w w':World}{p:Addr}{v:Value}(h:w.cell? p=some v)(g:Free.Grow w w'):w'.cell? p=some v:=by
 rw[Below.cell g (World.block_lt_of_cell? w _ h)];exact h
theorem not_w(a:UInt32):bits .xor .u32 4294967295 (a.toNat:Int)=((~~~a).toNat:Int):=by
 show IntKind.u32.wrap ((BitVec.ofInt 32 4294967295 ^^^ BitVec.ofInt 32 (a.toNat:Int)).toNat:Int)=_
 rw[bZ]
 have:BitVec.ofInt 32 4294967295 ^^^ a.toBitVec=(~~~a).toBitVec:=by
  rw[UInt32.toBitVec_not]
  exact BitVec.allOnes_xor
 rw[this];exact gv (~~~a)
theorem shr_c(x:UInt32)(c:Int)(n:Nat)(hn:n<32)(hc:c=2 ^ n):(x.toNat:Int) / c=((x>>>UInt32.ofNat n).toNat:Int):=by rw[hc];exact shr_w x n hn
theorem cf(a b:UInt32):((a.toNat:Int)+(b.toNat:Int)) % 4294967296=((a+b).toNat:Int):=by rw[<-dI];exact add_w a b
theorem next_val(x16 x15 x7 x2:UInt32):((x16.toNat:Int)+bits BinOp.xor IntKind.u32 (↑(rots x15 [7,18]).toNat) (↑x15.toNat / 8)+ ↑x7.toNat+
  bits BinOp.xor IntKind.u32 (↑(rots x2 [17,19]).toNat) (↑x2.toNat / 1024)) % 4294967296=((x16+sg0 x15+x7+sg1 x2).toNat:Int):=by
 rw[shr_c x15 8 3 (by decide) rfl,shr_c x2 1024 10 (by decide) rfl,xor_w,xor_w, <-cf, <-cf, <-cf]
 simp only[Int.emod_add_emod]
 rfl

structure S8 where
 a:UInt32
 b:UInt32
 c:UInt32
 d:UInt32
 e:UInt32
 f:UInt32
 g:UInt32
 h:UInt32
def S8.cells(x:S8):List Value:= [W x.a,W x.b,W x.c,W x.d,W x.e,W x.f,W x.g,W x.h]
def tP(x:S8)(kt wt:UInt32):UInt32:=x.h+rots x.e [6,11,25]+((x.e&&&x.f) ^^^ (~~~x.e&&&x.g))+kt+wt
def tQ(x:S8):UInt32:=rots x.a [2,13,22]+(((x.a&&&x.b) ^^^ (x.a&&&x.c)) ^^^ (x.b&&&x.c))
def round(x:S8)(kt wt:UInt32):S8:=⟨tP x kt wt+tQ x,x.a,x.b,x.c,x.d+tP x kt wt,x.e,x.f,x.g⟩
def gg(K ws:List UInt32)(x:S8):Nat->S8
 |0=>x
 |t+1=>round (gg K ws x t) (K.getD t 0) (ws.getD t 0)
def S8.add(x y:S8):S8:=⟨x.a+y.a,x.b+y.b,x.c+y.c,x.d+y.d,x.e+y.e,x.f+y.f,x.g+y.g,x.h+y.h⟩
def mixS(K:List UInt32)(x:S8)(s:ByteArray):S8:=x.add (gg K (extW 48 (bO s)) x 64)

def Rel1(w:World)(s:ByteArray)(x:S8)(i:Value)(wr:World):Prop:=
 ∃(k:Nat) (ws:List UInt32),k<=16/\i= .int .i64 k/\ws.length=64/\(∀j,j<k->ws[j]? =some (be s j))/\Blk wr (w.heap.size+1+1) (ws.map W) 186/\Blk wr w.heap.size x.cells 150/\Blk wr (w.heap.size+1) (List.replicate 8 (W 0)) 150/\Below (w.heap.size) w wr
def Rel2(w:World)(s:ByteArray)(x:S8)(i:Value)(wr:World):Prop:=
 ∃(k:Nat) (ws:List UInt32),16<=k/\k<=64/\i= .int .i64 k/\ws.length=64/\ws.take k=extW (k-16) (bO s)/\Blk wr (w.heap.size+1+1) (ws.map W) 186/\Blk wr w.heap.size x.cells 150/\Blk wr (w.heap.size+1) (List.replicate 8 (W 0)) 150/\Below (w.heap.size) w wr
theorem rel2_step{w:World}{s:ByteArray}{x:S8}{k:Nat}{ws l:List UInt32}{w2:World}(hk1:16<=k)(hlt:k<64)(hl:ws.length=64)(hll:l.length=k)(he:l=extW (k-16) (bO s))(ht:ws.take k=l)
  (q0:Blk w2 (w.heap.size+1+1) (ws.map W) 186) (q1:Blk w2 w.heap.size x.cells 150) (q2:Blk w2 (w.heap.size+1) (List.replicate 8 (W 0)) 150) (q3:Below w.heap.size w w2) (v:Int)
  (hv:v=((l.getD (k-16) 0+sg0 (l.getD (k-15) 0)+l.getD (k-7) 0+sg1 (l.getD (k-2) 0)).toNat:Int)):
  Rel2 w s x (.int .i64 (↑k+1)) (w2.setCell ⟨w.heap.size+1+1,k,none⟩ (.int .u32 v)):=by
 subst hv
 refine⟨k+1,ws.set k (nextW l),by omega,by omega,by go_num,by simp[hl], ?_, ?_,q1.set_ne (by simp;omega) _,q2.set_ne (by simp) _,q3.setCell (by simp;omega) _⟩
 ·rw[take_set _ ht (by omega),he,show k+1-16=(k-16)+1 by omega];rfl
 ·rw[List.map_set]
  have:nextW l=l.getD (k-16) 0+sg0 (l.getD (k-15) 0)+l.getD (k-7) 0+sg1 (l.getD (k-2) 0):=by unfold nextW;rw[hll]
  rw[this]
  exact q0.set k _

end Go.Proofs.YtekfoaenomgjgaaGreatDoor
