/- Plain mathematics of one block of SHA-256, and the relations of the loops of digest.mixed. No condition. -/
import Derived.Shelf.Strings.BuilderK
import Derived.Test.YtkmbmfengcdmoaaGreatDoorZAA
import Derived.Test.YtkmbmfengcdmoaaGreatDoorBlk
import Derived.Test.YtkmbmfengcdmoaaGreatDoorA0
import Derived.Lib.ItoaNum
import Derived.Test.YtkmbmfengcdmoaaGreatDoorFree
import Derived.BigFrame
import Derived.WalkKit
import Derived.Test.YtkmbmfengcdmoaaGreatDoorRows
import Derived.Lib.Hide
import Derived.WalkSpells
import Derived.WalkLawsBesides
set_option linter.all false
namespace Go.Proofs.YtkmbmfengcdmoaaGreatDoor
open Go.Shelf

def Ol:Go.Shelf.Ren:=⟨fun|166=>57|167=>58|240=>93|276=>139|n=>n,fun|0=>0|3=>3|4=>4|5=>5|9=>9|20=>20|37=>117|70=>116|72=>119|75=>121|164=>229|80=>127|n=>n,fun|n=>n⟩
theorem xV:Go.Proofs.Lays.n166 Tryz.prog Ol:= {
 mixed:=by kernel_rfl
 f166:=Tryz.func57.trans (congrArg some (by kernel_rfl))
 f240:=Tryz.func93.trans (congrArg some (by kernel_rfl))
 f276:=Tryz.func139.trans (congrArg some (by kernel_rfl))
 t0:=Tryz.underlying0
 a0:=Tryz.isAgg0
 z0:=Tryz.sizeOf0
 v0:=Tryz.zeroValue0
 t3:=Tryz.underlying3
 a3:=Tryz.isAgg3
 z3:=Tryz.sizeOf3
 v3:=Tryz.zeroValue3
 t4:=Tryz.underlying4
 a4:=Tryz.isAgg4
 z4:=Tryz.sizeOf4
 v4:=Tryz.zeroValue4
 t9:=Tryz.underlying9
 a9:=Tryz.isAgg9
 z9:=Tryz.sizeOf9
 v9:=Tryz.zeroValue9
 t20:=Tryz.underlying20
 a20:=Tryz.isAgg20
 z20:=Tryz.sizeOf20
 v20:=Tryz.zeroValue20
 t37:=Tryz.underlying117
 a37:=Tryz.isAgg117
 z37:=Tryz.sizeOf117
 v37:=Tryz.zeroValue117
 t70:=Tryz.underlying116
 a70:=Tryz.isAgg116
 z70:=Tryz.sizeOf116
 v70:=Tryz.zeroValue116
 t72:=Tryz.underlying119
 a72:=Tryz.isAgg119
 z72:=Tryz.sizeOf119
 v72:=Tryz.zeroValue119
 t75:=Tryz.underlying121
 a75:=Tryz.isAgg121
 z75:=Tryz.sizeOf121
 v75:=Tryz.zeroValue121
 t164:=Tryz.underlying229
 a164:=Tryz.isAgg229
 z164:=Tryz.sizeOf229
 v164:=Tryz.zeroValue229}
theorem Hn:Go.Proofs.Lays.n167 Tryz.prog Ol:= {
 mixed:=by kernel_rfl
 f167:=Tryz.func58.trans (congrArg some (by kernel_rfl))
 f240:=Tryz.func93.trans (congrArg some (by kernel_rfl))
 f276:=Tryz.func139.trans (congrArg some (by kernel_rfl))
 t0:=Tryz.underlying0
 a0:=Tryz.isAgg0
 z0:=Tryz.sizeOf0
 v0:=Tryz.zeroValue0
 t4:=Tryz.underlying4
 a4:=Tryz.isAgg4
 z4:=Tryz.sizeOf4
 v4:=Tryz.zeroValue4
 t5:=Tryz.underlying5
 a5:=Tryz.isAgg5
 z5:=Tryz.sizeOf5
 v5:=Tryz.zeroValue5
 t9:=Tryz.underlying9
 a9:=Tryz.isAgg9
 z9:=Tryz.sizeOf9
 v9:=Tryz.zeroValue9
 t20:=Tryz.underlying20
 a20:=Tryz.isAgg20
 z20:=Tryz.sizeOf20
 v20:=Tryz.zeroValue20
 t37:=Tryz.underlying117
 a37:=Tryz.isAgg117
 z37:=Tryz.sizeOf117
 v37:=Tryz.zeroValue117
 t70:=Tryz.underlying116
 a70:=Tryz.isAgg116
 z70:=Tryz.sizeOf116
 v70:=Tryz.zeroValue116
 t72:=Tryz.underlying119
 a72:=Tryz.isAgg119
 z72:=Tryz.sizeOf119
 v72:=Tryz.zeroValue119
 t75:=Tryz.underlying121
 a75:=Tryz.isAgg121
 z75:=Tryz.sizeOf121
 v75:=Tryz.zeroValue121
 t164:=Tryz.underlying229
 a164:=Tryz.isAgg229
 z164:=Tryz.sizeOf229
 v164:=Tryz.zeroValue229}
theorem Af:Builder.Extra Tryz.prog Ol:= {
 sizeBuilder:=by kernel_rfl
 liesBuilder:=by kernel_rfl
 t5:=Tryz.underlying5
 a5:=Tryz.isAgg5
 z5:=Tryz.sizeOf5
 v5:=Tryz.zeroValue5
 infoByte:=by kernel_rfl
 cellsByte:=by kernel_rfl
 sizeByte:=by kernel_rfl
 neB5:=by decide}
open Go.RowKit
def lH(w0:World)(B b:Nat)(l:List UInt8)(w:World):Prop:=Lib.IsBuilderF 119 5 B b (Lib.byteCells l) w/\Below B w0 w/\B<=w0.heap.size
theorem lH.bl{w0 w:World}{B b:Nat}{l:List UInt8}(h:lH w0 B b l w):Below B w0 w:=h.2.1
theorem lH.str{w0 w:World}{B b:Nat}{l:List UInt8}(h:lH w0 B b l w)(s:ByteArray)(hl:l.length+s.size<=140737488355328):
  Calls Tryz.prog 57 #[.pointer (some ⟨b,0,none⟩), .string s] w λe w'=>e= .returned (.tuple #[.int .i64 s.size, .nilIface])/\lH w0 B b (l++s.data.toList) w':=by
 obtain⟨h1,h2,h3⟩:=h;refine(Any.Builder_WriteString_k xV Af B b (Lib.byteCells l) s w h1 (by simpa[Lib.byteCells]using hl) (fO h3 h2.size)).mono ?_;rintro e w' ⟨rfl,h4,h5,_⟩;refine⟨rfl, .inr ?_,h2.trans h5,h3⟩;have e1:Lib.byteCells (l++s.data.toList)=Lib.byteCells l++Lib.strCells s:=by simp[Lib.byteCells,Lib.strCells]
 rw[e1];exact h4
theorem lH.byte{w0 w:World}{B b:Nat}{l:List UInt8}(h:lH w0 B b l w)(c:UInt8)(hl:l.length+1<=140737488355328):
  Calls Tryz.prog 58 #[.pointer (some ⟨b,0,none⟩), .int .u8 c.toNat] w λe w'=>e= .returned .nilIface/\lH w0 B b (l++ [c]) w':=by
 obtain⟨h1,h2,h3⟩:=h;refine(Any.Builder_WriteByte_k Hn Af B b (Lib.byteCells l) c.toNat w h1 (by simpa[Lib.byteCells]using hl) (fO h3 h2.size)).mono ?_;rintro e w' ⟨rfl,h4,h5,_⟩;refine⟨rfl, .inr ?_,h2.trans h5,h3⟩;have e1:Lib.byteCells (l++ [c])=Lib.byteCells l++ [.int .u8 c.toNat]:=by simp[Lib.byteCells]
 rw[e1];exact h4
theorem lH.read{w0 w:World}{B b:Nat}{l:List UInt8}(h:lH w0 B b l w):
  Calls Tryz.prog 60 #[.pointer (some ⟨b,0,none⟩)] w λe w'=>e= .returned (.string ⟨l.toArray⟩)/\lH w0 B b l w':=by
 obtain⟨h1,h2,h3⟩:=h;refine(Tryz.Builder_String_any_k B b l w h1 (fO h3 h2.size)).mono ?_;rintro e w' ⟨rfl,h4,h5,_⟩;exact⟨rfl,h4,h2.trans h5,h3⟩
theorem lH.grow{w0 w w':World}{B b:Nat}{l:List UInt8}(h:lH w0 B b l w)(hb:Below w.heap.size w w'):lH w0 B b l w':=by
 obtain⟨h1,h2,h3⟩:=h;refine⟨?_,h2.trans (hb.mono (fO h3 h2.size)),h3⟩;have go:∀p,Lib.BuilderAtF 119 5 B b p (Lib.byteCells l) w->Lib.BuilderAtF 119 5 B b p (Lib.byteCells l) w':=by
  rintro p ⟨k1,v,k2,⟨k3,k4⟩,k5⟩;refine⟨k1,v,(hb.block b (iS.1 k2).1).trans k2,⟨k3, ?_⟩,k5⟩;rcases k4 with k4|⟨g,cap,cur,fz,j1,j2,j3,j4⟩
  ·exact .inl k4
  ·exact .inr ⟨g,cap,cur,fz,j1,j2,(hb.block g (iS.1 j3).1).trans j3,j4⟩
 exact h1.imp (go _) (go _)
theorem lH.new(w0 w:World)(B:Nat)(hb:Below B w0 w)(hB:B<=w0.heap.size):lH w0 B w.heap.size [] (w.alloc (.cells #[.pointer none, .slice none 0 0] 119)):=by refine⟨.inl ⟨fO hB hb.size, .slice none 0 0,(by show(w.heap.push _)[w.heap.size]? =_;simp), ?_,by simp[Value.ownBlock]⟩,hb.alloc (fO hB hb.size) _,hB⟩;exact⟨rfl, .inl ⟨rfl,rfl⟩⟩
end Go.Proofs.YtkmbmfengcdmoaaGreatDoor
namespace Go.Pa
open Go
def rp(l:List UInt8):Nat:=l.foldl (λa d=>a*10+(d.toNat-48)) 0
theorem pY(l:List UInt8)(d:UInt8):rp (l++ [d])=rp l*10+(d.toNat-48):=by simp[rp]
theorem kE(d:Nat)(h:d<10):(UInt8.ofNat (48+d)).toNat=48+d:=by rw[UInt8.toNat_ofNat'];omega
theorem ga(m:Nat):∀u,u<m->rp (Lib.decDigits u)=u/\(∀b∈Lib.decDigits u,48<=b.toNat/\b.toNat<=57)/\Lib.decDigits u≠ []:=by
 induction m with
 |zero=>intro u hu;omega
 |succ m ih=>
  intro u hu;by_cases h:u<10
  ·rw[Lib.decDigits_one h];refine⟨?_, ?_,by simp⟩
   ·show 0*10+((UInt8.ofNat (48+u)).toNat-48)=u;rw[kE u h];omega
   ·intro b hb;rw[vU]at hb;subst hb;rw[kE u h];omega
  ·rw[Lib.decDigits,dif_neg h];obtain⟨h1,h2,_⟩:=ih (u / 10) (by omega);have hd:=kE (u % 10) (by omega);refine⟨?_, ?_,by simp⟩
   ·rw[pY,h1,hd];omega
   ·intro b hb;rcases zT.1 hb with hb|hb
    ·exact h2 b hb
    ·rw[vU]at hb;subst hb;rw[hd];omega
theorem jV(u:Nat):rp (Lib.decDigits u)=u/\(∀b∈Lib.decDigits u,48<=b.toNat/\b.toNat<=57)/\Lib.decDigits u≠ []:=ga (u+1) u (by omega)
end Go.Pa
namespace Go.Jn
open Go Go.Pa
def jm:List UInt8->Nat->Option Nat
 | [],a=>some a
 |c::r,a=>if 48<=c.toNat/\c.toNat<=57 then jm r (10*a+(c.toNat-48))else none
def cI(s:List UInt8):Option Nat:=jm s 0
theorem sw:∀(s:List UInt8) (a:Nat),(∀b∈s,48<=b.toNat/\b.toNat<=57)->jm s a=some (s.foldl (λa d=>a*10+(d.toNat-48)) a)
 | [],_,_=>rfl
 |c::r,a,h=>by
  unfold jm;rw[if_pos (h c (by simp)),sw r _ (λb hb=>h b (by simp[hb])),RY,B8]
theorem jn:∀(s:List UInt8) (a:Nat) (b:UInt8),b∈s-> ¬(48<=b.toNat/\b.toNat<=57)->jm s a=none
 | [],_,b,h,_=>by cases h
 |c::r,a,b,h,hb=>by
  unfold jm;split
  ·rename_i hc;rcases lC.1 h with rfl|h
   ·exact absurd hc hb
   ·exact jn r _ b h hb
  ·rfl
def fc(k n:Nat):List UInt8:=List.replicate (k- (Lib.decDigits n).length) 48++Lib.decDigits n
theorem JB(k n:Nat):∀b∈fc k n,48<=b.toNat/\b.toNat<=57:=λb hb=>by
 rcases zT.1 hb with h|h
 ·have:=(List.mem_replicate.1 h).2;subst this;decide
 ·exact(jV n).2.1 b h
theorem qM:∀(k:Nat) (s:List UInt8),(List.replicate k (48:UInt8)++s).foldl (λa d=>a*10+(d.toNat-48)) 0=s.foldl (λa d=>a*10+(d.toNat-48)) 0
 |0,_=>rfl
 |k+1,s=>by
  rw[List.replicate_succ,xC,RY];exact qM k s
theorem ox(k n:Nat):cI (fc k n)=some n:=by unfold cI;rw[sw _ _ (JB k n)];unfold fc;rw[qM];exact congrArg some (jV n).1
theorem yp:∀(k n:Nat),1<=k->n<10 ^ k->(Lib.decDigits n).length<=k
 |0,_,h,_=>by omega
 |1,n,_,h=>by rw[Lib.decDigits_one (by simpa using h)];simp
 |k+2,n,_,h=>by
  by_cases h10:n<10
  ·rw[Lib.decDigits_one h10];simp
  ·rw[Lib.decDigits,dif_neg h10,fu]
   have:=yp (k+1) (n / 10) (by omega) (by rw[Nat.div_lt_iff_lt_mul (by decide)];rw[GL]at h;exact h);simp only[kq,qA];omega
theorem gF{k n:Nat}(hk:1<=k)(h:n<10 ^ k):(fc k n).length=k:=by have:=yp k n hk h;unfold fc;rw[fu,List.length_replicate];omega
def vt(n h l:Nat):List UInt8:=fc 9 n++(fc 1 h++fc 6 l)
theorem BV{n h l:Nat}(h1:n<=999999999)(h2:h<=1)(h3:l<=999999):(vt n h l).length=16:=by unfold vt;rw[fu,fu,gF (by decide) (by omega),gF (by decide) (by omega),gF (by decide) (by omega)]
def bN(s:List UInt8)(room:Nat):Option (Nat×Nat×Nat):=
 if s.length=32/\s.take 16=s.drop 16 then
  match cI (s.take 9)with
  |none=>none
  |some a=>match cI ((s.take 10).drop 9)with
   |none=>none
   |some b=>if b<=1 then(match cI ((s.take 16).drop 10)with
    |none=>none
    |some c=>if c<=room then some (a,b,c)else none)else none
 else none
theorem JC{n h l room:Nat}(h1:n<=999999999)(h2:h<=1)(h3:l<=999999)(h4:l<=room):bN (vt n h l++vt n h l) room=some (n,h,l):=by
 have hl:=BV h1 h2 h3;have p9:(fc 9 n).length=9:=gF (by decide) (by omega);have p1:(fc 1 h).length=1:=gF (by decide) (by omega);have p6:(fc 6 l).length=6:=gF (by decide) (by omega);unfold bN;rw[if_pos ⟨by rw[fu,hl],by rw[PW hl,PZ hl]⟩];have t16:(vt n h l++vt n h l).take 16=vt n h l:=PW hl;have t9:(vt n h l++vt n h l).take 9=fc 9 n:=by unfold vt;rw[List.append_assoc];exact PW p9
 have t10:((vt n h l++vt n h l).take 10).drop 9=fc 1 h:=by
  have e:(vt n h l++vt n h l).take 10=fc 9 n++fc 1 h:=by
   have:vt n h l++vt n h l=(fc 9 n++fc 1 h)++(fc 6 l++vt n h l):=by unfold vt;simp
   rw[this];exact PW (by rw[fu,p9,p1])
  rw[e];exact PZ p9
 have d10:(vt n h l).drop 10=fc 6 l:=by
  have:vt n h l=(fc 9 n++fc 1 h)++fc 6 l:=by unfold vt;simp
  rw[this];exact PZ (by rw[fu,p9,p1])
 rw[t9,ox,t10,ox];simp only;rw[if_pos h2,t16,d10,ox];simp only;rw[if_pos h4]
theorem y8{s:List UInt8}{room:Nat}(h:∃b,b∈s.drop 16/\ ¬(48<=b.toNat/\b.toNat<=57)):bN s room=none:=by
 obtain⟨b,hb,hd⟩:=h;unfold bN;split
 ·rename_i hc;rw[<-hc.2]at hb;have e:s.take 16=s.take 9++((s.take 10).drop 9++(s.take 16).drop 10):=by
   apply rC;intro i;simp only[List.getElem?_append,qC,GI,jQ,zS,hc.1];by_cases h1:i<9
   ·simp[h1];omega
   ·by_cases h2:i<10
    ·have:i=9:=by omega
     subst this;simp
    ·by_cases h3:i<16
     ·simp[h1,h3];rw[if_neg (by omega),if_pos (by omega)];congr 1;omega
     ·simp[h1,h3];rw[if_neg (by omega),if_neg (by omega)]
  rw[e]at hb;rcases zT.1 hb with h|h
  ·rw[show cI (s.take 9)=none from jn _ _ b h hd]
  ·rcases zT.1 h with h|h
   ·cases cI (s.take 9)with
    |none=>rfl
    |some a=>rw[show cI ((s.take 10).drop 9)=none from jn _ _ b h hd]
   ·cases cI (s.take 9)with
    |none=>rfl
    |some a=>
     cases cI ((s.take 10).drop 9)with
     |none=>rfl
     |some c=>
      simp only;split
      ·rw[show cI ((s.take 16).drop 10)=none from jn _ _ b h hd]
      ·rfl
 ·rfl
theorem tp(t:List UInt8)(k room:Nat)(hl:t.length=32)(hk:k<32):bN (t.take k++List.replicate (32-k) 0) room=none:=by
 refine y8 ⟨0, ?_,by decide⟩;have hlen:(t.take k++List.replicate (32-k) (0:UInt8)).length=32:=by simp;omega
 refine NQ.2 ⟨15, ?_⟩;rw[GI,BW (by rw[jQ];omega),List.getElem?_replicate,if_pos (by rw[jQ];omega)]
theorem qZ(room:Nat):bN (List.replicate 32 0) room=none:=tp (List.replicate 32 0) 0 room (by simp) (by decide)
def bR(b:List UInt8):List UInt8:=fc 4 b.length++b
def gz(l:List (List UInt8)):List UInt8:=l.flatMap bR
theorem kF{b:List UInt8}(h:b.length<=2000):(bR b).length=4+b.length:=by unfold bR;rw[fu,gF (by decide) (by omega)]
def cH:Nat->List UInt8->Option (List (List UInt8))
 |0,t=>if t= []then some []else none
 |f+1,t=>if t= []then some []else if t.length<4 then none else match cI (t.take 4)with
  |none=>none
  |some n=>if 2000<n\/t.length-4<n then none else(cH f (t.drop (4+n))).map (λr=>(t.drop 4).take n::r)
def da(t:List UInt8):Option (List (List UInt8)):=cH t.length t
theorem mo:∀(l:List (List UInt8)) (f:Nat),(∀b∈l,b.length<=2000)->(gz l).length<=f->cH f (gz l)=some l
 | [],0,_,_=>rfl
 | [],f+1,_,_=>rfl
 |b::l,f,h,hf=>by
  have hb:=h b (by simp);have e:gz (b::l)=fc 4 b.length++(b++gz l):=by show bR b++gz l=_;unfold bR;rw[List.append_assoc]
  have hp:(fc 4 b.length).length=4:=gF (by decide) (by omega);rw[e]at hf⊢;rw[fu,fu,hp]at hf;cases f with
  |zero=>omega
  |succ f=>
   have hne: ¬(fc 4 b.length++(b++gz l))= []:=λe=>by
    have:=congrArg List.length e;rw[fu,hp]at this;simp at this
   unfold cH;rw[if_neg hne,if_neg (by rw[fu,hp];omega),PW hp,ox];simp only;rw[if_neg (by rw[fu,fu,hp];omega)];have e2:(fc 4 b.length++(b++gz l)).drop (4+b.length)=gz l:=by rw[<-List.append_assoc];exact PZ (by rw[fu,hp])
   have e3:((fc 4 b.length++(b++gz l)).drop 4).take b.length=b:=by rw[PZ hp];exact PW rfl
   rw[e2,e3,mo l f (λx hx=>h x (by simp[hx])) (by omega)];rfl
theorem xj{l:List (List UInt8)}(h:∀b∈l,b.length<=2000):da (gz l)=some l:=mo l _ h (aL _)
end Go.Jn
namespace Go.Row
open Go Go.RowKit
section
variable {P:Program} {ops:Array Oper} {Q:Exit->Act->World->Prop} {a:Act} {w:World} {rest:List Oper} {o:Oper}
theorem step(hw:Region.wanted o (yielded ops a.tmps)=true){K:Value->World->Prop}(h1:Free.dC P o a.eval w K)(h2:∀v w',K v w'->wpList P ops Q rest (a.put o.dst v) w'):wpList P ops Q (o::rest) a w:=
 BigFrame.wpList_want hw λ_ hK=>Free.j7 h1 λv w' hv=>hK _ _ (h2 v w' hv)
theorem yP(hw:Region.wanted o (yielded ops a.tmps)=true){v:Value}{w':World}(h1:(execOp a.eval o).run P w= .ok (.value v) w')(h2:wpList P ops Q rest (a.put o.dst v) w'):wpList P ops Q (o::rest) a w:=
 step hw (K:=λu x=>u=v/\x=w') (Free.cq h1 ⟨rfl,rfl⟩) (by rintro _ _ ⟨rfl,rfl⟩;exact h2)
theorem still(hw:Region.wanted o (yielded ops a.tmps)=true){v:Value}(h1:(execOp a.eval o).run P w= .ok (.value v) w)(h2:wpList P ops Q rest (a.put o.dst v) w):wpList P ops Q (o::rest) a w:=yP hw h1 h2
end
end Go.Row
namespace Go.Sg

def gp:Nat:=2147483647
def pw(b n:Nat):Nat:=b ^ n % gp

theorem II:0<gp:=by decide
theorem tw(b n:Nat):pw b n<gp:=M3 _ II
theorem Mw(b:Nat):pw b 0=1:=by simp[pw,gp]
theorem O8(b:Nat)(h:b<gp):pw b 1=b:=by simp[pw,PD h]
theorem nH(b m n:Nat):pw b (m+n)=pw b m*pw b n % gp:=by unfold pw;rw[Nat.pow_add,Nat.mul_mod]
theorem tz(b m n:Nat):pw (pw b m) n=pw b (m*n):=by unfold pw;rw[<-Nat.pow_mod, <-Nat.pow_mul]
theorem mg(n:Nat):pw 1 n=1:=by simp[pw,gp]
def AD(fuel:Nat)(b n r:Nat):Nat:=
 match fuel with
 |0=>r
 |f+1=>AD f (b*b % gp) (n / 2) (if n % 2=1 then r*b % gp else r)
theorem LD(f:Nat):∀b n r,n<2 ^ f->r<gp->AD f b n r=r*b ^ n % gp:=by
 induction f with
 |zero=>
   intro b n r hn hr;obtain rfl:n=0:=by omega
   simp[AD,PD hr]
 |succ f ih=>
  intro b n r hn hr;have hn2:n / 2<2 ^ f:=by rw[GL]at hn;omega
  unfold AD;have hsq:∀k,(b*b % gp) ^ k % gp=b ^ (2*k) % gp:=λk=>by
   rw[<-Nat.pow_mod,Nat.pow_mul];congr 2;rw[Nat.pow_two]
  by_cases h:n % 2=1
  ·rw[if_pos h,ih _ _ _ hn2 (M3 _ II)];have e:n=1+2*(n / 2):=by omega
   rw[Nat.mul_mod,hsq,Nat.mod_mod, <-Nat.mul_mod,P6];congr 2
   conv=>rhs;rw[e,Nat.pow_add,Nat.pow_one]
  ·rw[if_neg h,ih _ _ _ hn2 hr];have e:n=2*(n / 2):=by omega
   rw[Nat.mul_mod,hsq, <-Nat.mul_mod];congr 2
   conv=>rhs;rw[e]
theorem gG(b n:Nat)(h:n<2 ^ 32):pw b n=AD 32 b n 1:=by rw[LD 32 b n 1 h (by decide),Nat.one_mul];rfl
theorem kU:pw 7 2147483646=1:=by rw[gG _ _ (by decide)];decide+kernel
theorem JZ:pw 7 1073741823≠1:=by rw[gG _ _ (by decide)];decide+kernel
theorem J1:pw 7 715827882≠1:=by rw[gG _ _ (by decide)];decide+kernel
theorem J2:pw 7 306783378≠1:=by rw[gG _ _ (by decide)];decide+kernel
theorem Gh:pw 7 195225786≠1:=by rw[gG _ _ (by decide)];decide+kernel
theorem Gi:pw 7 69273666≠1:=by rw[gG _ _ (by decide)];decide+kernel
theorem Bu:pw 7 14221746≠1:=by rw[gG _ _ (by decide)];decide+kernel
theorem Bv:pw 7 6487866≠1:=by rw[gG _ _ (by decide)];decide+kernel

theorem vG(k:Nat):pw 7 (2147483646*k)=1:=by rw[<-tz,kU,mg]
theorem td{g n:Nat}(h:pw 7 g=1)(hd:g ∣ n):pw 7 n=1:=by obtain⟨k,rfl⟩:=hd;rw[<-tz,h,mg]
theorem one_sub{a b:Nat}(ha:pw 7 a=1)(hb:pw 7 (a+b)=1):pw 7 b=1:=by rw[nH,ha,Nat.one_mul,PD (tw _ _)]at hb;exact hb
theorem one_mod{a b:Nat}(ha:pw 7 a=1)(hb:pw 7 b=1):pw 7 (b % a)=1:=by have h1:pw 7 (a*(b / a))=1:=td ha ⟨_,rfl⟩;refine one_sub h1 ?_;rw[Nat.div_add_mod];exact hb
theorem one_gcd(a:Nat):∀b,pw 7 a=1->pw 7 b=1->pw 7 (Nat.gcd a b)=1:=by
 induction a using Nat.strongRecOn with
 |ind a ih=>
  intro b ha hb;by_cases h0:a=0
  ·subst h0;simpa using hb
  ·rw[Nat.gcd_rec];exact ih (b % a) (M3 _ (by omega)) a (one_mod ha hb) ha

theorem fZ{q m:Nat}(hq:∀d,d<q+1->d ∣ q->d=1\/d=q)(h0:0<q)(h: ¬q ∣ m):Nat.Coprime m q:=by
 have h1:Nat.gcd m q ∣ q:=Nat.gcd_dvd_right _ _;rcases hq _ (Nat.lt_succ_of_le (Nat.le_of_dvd h0 h1)) h1 with e|e
 ·exact e
 ·exact absurd (e▸Nat.gcd_dvd_left m q) h
theorem jv{q:Nat}(h:(List.range (q+1)).all (λd=>q % d !=0||d==1||d==q)=true):∀d,d<q+1->d ∣ q->d=1\/d=q:=by
 intro d hd hdv
 have:=GJ.1 h d (R2.2 hd);have e:q % d=0:=Nat.mod_eq_zero_of_dvd hdv;simp[e]at this;exact this
theorem Bw{m:Nat}(hm:m ∣ 2147483646)(h1:m≠1):2 ∣ m\/3 ∣ m\/7 ∣ m\/11 ∣ m\/31 ∣ m\/151 ∣ m\/331 ∣ m:=by
 refine Sh λhn=> ?_
 simp only[not_or]at hn;obtain⟨n2,n3,n7,n11,n31,n151,n331⟩:=hn;have c2:=fZ (jv (by decide+kernel)) (by decide) n2;have c3:=fZ (jv (by decide+kernel)) (by decide) n3;have c7:=fZ (jv (by decide+kernel)) (by decide) n7;have c11:=fZ (jv (by decide+kernel)) (by decide) n11;have c31:=fZ (jv (by decide+kernel)) (by decide) n31;have c151:=fZ (jv (by decide+kernel)) (by decide) n151;have c331:=fZ (jv (by decide+kernel)) (by decide) n331;have h2:m ∣ 2*(3*(3*(7*(11*(31*(151*(331*1))))))):=hm;have h3:=c2.dvd_of_dvd_mul_left h2;have h4:=c3.dvd_of_dvd_mul_left h3;have h5:=c3.dvd_of_dvd_mul_left h4;have h6:=c7.dvd_of_dvd_mul_left h5;have h7:=c11.dvd_of_dvd_mul_left h6;have h8:=c31.dvd_of_dvd_mul_left h7;have h9:=c151.dvd_of_dvd_mul_left h8;have h10:=c331.dvd_of_dvd_mul_left h9;exact h1 (Nat.dvd_one.1 h10)
theorem order{d:Nat}(h0:0<d)(h:d<2147483646):pw 7 d≠1:=by
 intro hd;have hg:=one_gcd d 2147483646 hd kU;obtain⟨g,eg⟩:=x_ (Nat.gcd d 2147483646)
 rw[<-eg]at hg;have hgd:g ∣ 2147483646:=eg▸Nat.gcd_dvd_right _ _;have hgl:g<=d:=Nat.le_of_dvd h0 (eg▸Nat.gcd_dvd_left _ _);obtain⟨m,hm⟩:=hgd;have hm1:m≠1:=by rintro rfl;omega
 have key:∀q k,q ∣ m->2147483646=q*k->0<q->pw 7 k=1:=by rintro q k ⟨j,rfl⟩ e hq;refine td hg ⟨j, ?_⟩;rw[e]at hm;refine Nat.eq_of_mul_eq_mul_left hq ?_;rw[hm,Nat.mul_left_comm]
 rcases Bw ⟨g,by rw[hm,B8]⟩ hm1 with h|h|h|h|h|h|h
 ·exact JZ (key 2 _ h rfl (by decide))
 ·exact J1 (key 3 _ h rfl (by decide))
 ·exact J2 (key 7 _ h rfl (by decide))
 ·exact Gh (key 11 _ h rfl (by decide))
 ·exact Gi (key 31 _ h rfl (by decide))
 ·exact Bu (key 151 _ h rfl (by decide))
 ·exact Bv (key 331 _ h rfl (by decide))
theorem zB{i j:Nat}(hj:j<2147483646)(hij:i<=j)(h:pw 7 i=pw 7 j):i=j:=by
 refine Sh λhne=> ?_
 refine order (d:=j-i) (by omega) (by omega) ?_;have e1:pw 7 (2147483646-i+i)=pw 7 (2147483646-i+j):=by rw[nH,nH 7 _ j,h]
 rw[show 2147483646-i+i=2147483646 by omega,kU]at e1;refine one_sub kU ?_;rw[show 2147483646+(j-i)=2147483646-i+j by omega];exact e1.symm
theorem Gg{i j:Nat}(hi:i<2147483646)(hj:j<2147483646)(h:pw 7 i=pw 7 j):i=j:=by
 rcases Nat.le_total i j with hij|hij
 ·exact zB hj hij h
 ·exact(zB hi hij h.symm).symm
theorem Gw(n:Nat):∀f:Nat->Nat,(∀i,i<n+1->f i<n)->∃i j,i<j/\j<n+1/\f i=f j:=by
 induction n with
 |zero=>intro f hf;exact absurd (hf 0 (by omega)) (by omega)
 |succ n ih=>
  intro f hf;by_cases hx:∃i,i<n+1/\f i=f (n+1)
  ·obtain⟨i,hi,e⟩:=hx;exact⟨i,n+1,hi,by omega,e⟩
  ·have hne:∀i,i<n+1->f i≠f (n+1):=λi hi e=>hx ⟨i,hi,e⟩
   obtain⟨i,j,hij,hj,e⟩:=ih (λi=>if f i=n then f (n+1)else f i) (λi hi=>by
    have h1:=hf i (by omega);have h2:=hf (n+1) (by omega);have h3:=hne i hi;split<;>omega)
   refine⟨i,j,hij,by omega, ?_⟩;have h1:=hne i (by omega);have h2:=hne j hj;split at e<;>split at e<;>omega
theorem Th(n:Nat)(f:Nat->Nat)(hf:∀i,i<n->f i<n)(inj:∀i j,i<n->j<n->f i=f j->i=j)(y:Nat)(hy:y<n):∃i,i<n/\f i=y:=by
 refine Sh λhx=> ?_
 have hne:∀i,i<n->f i≠y:=λi hi e=>hx ⟨i,hi,e⟩
 obtain⟨i,j,hij,hj,e⟩:=Gw n (λi=>if i=n then y else f i) (λi hi=>by
  split
  ·exact hy
  ·exact hf i (by omega))
 rw[if_neg (by omega)]at e;split at e
 ·exact hne i (by omega) e
 ·exact absurd (inj i j (by omega) (by omega) e) (by omega)
theorem kl(n:Nat):1<=pw 7 n:=by
 refine Sh λh=> ?_
 have h0:pw 7 n=0:=by omega
 have e:pw 7 (n*2147483646)=1:=by rw[B8];exact vG n
 rw[<-tz,h0]at e
 have:pw 0 2147483646=0:=by rw[gG _ _ (by decide)];decide+kernel
 omega
theorem vF(b:Nat)(h1:1<=b)(h2:b<gp):∃k,pw 7 k=b:=by
 obtain⟨i,_,e⟩:=Th 2147483646 (λi=>pw 7 i-1) (λi _=>by have:=kl i;have:=tw 7 i;unfold gp at this;omega)
  (λi j hi hj e=>Gg hi hj (by have:=kl i;have:=kl j;omega)) (b-1) (by unfold gp at h2;omega)
 have:=kl i;exact⟨i,by omega⟩
theorem Mv(b:Nat)(h1:1<=b)(h2:b<gp):pw b 2147483646=1:=by obtain⟨k,rfl⟩:=vF b h1 h2;rw[tz,B8];exact vG k
theorem O9(b n:Nat)(h1:1<=b)(h2:b<gp):1<=pw b n:=by obtain⟨k,rfl⟩:=vF b h1 h2;rw[tz];exact kl _
theorem O7(b n:Nat)(h1:1<=b)(h2:b<gp):pw b (n % 2147483646)=pw b n:=by
 conv=>rhs;rw[<-Nat.div_add_mod n 2147483646];rw[nH, <-tz,Mv b h1 h2,mg,Nat.one_mul,PD (tw _ _)]
end Go.Sg
namespace Go.W32
open Go

theorem wrap_u32(n:Int):IntKind.u32.wrap n=n % 4294967296:=by simp[IntKind.wrap,IntKind.bits,IntKind.signed]
theorem Ql(a b:UInt32):IntKind.u32.wrap ((a.toNat:Int)+(b.toNat:Int))=((a+b).toNat:Int):=by rw[wrap_u32,UInt32.toNat_add];omega
theorem fD(a:UInt32):BitVec.ofInt 32 (a.toNat:Int)=a.toBitVec:=by
 apply BitVec.eq_of_toNat_eq;rw[BitVec.ofInt_natCast,BitVec.toNat_ofNat]
 have:=a.toNat_lt;exact PD this
theorem pq(a:UInt32):IntKind.u32.wrap (a.toNat:Int)=(a.toNat:Int):=by rw[wrap_u32];have:=a.toNat_lt;omega
theorem vR(a b:UInt32):bits .xor .u32 (a.toNat:Int) (b.toNat:Int)=((a ^^^ b).toNat:Int):=by show IntKind.u32.wrap ((BitVec.ofInt 32 (a.toNat:Int) ^^^ BitVec.ofInt 32 (b.toNat:Int)).toNat:Int)=_;rw[fD,fD];exact pq (a ^^^ b)
theorem uI(a b:UInt32):bits .and .u32 (a.toNat:Int) (b.toNat:Int)=((a&&&b).toNat:Int):=by show IntKind.u32.wrap ((BitVec.ofInt 32 (a.toNat:Int)&&&BitVec.ofInt 32 (b.toNat:Int)).toNat:Int)=_;rw[fD,fD];exact pq (a&&&b)
theorem Mm(a b:UInt32):bits .or .u32 (a.toNat:Int) (b.toNat:Int)=((a|||b).toNat:Int):=by show IntKind.u32.wrap ((BitVec.ofInt 32 (a.toNat:Int)|||BitVec.ofInt 32 (b.toNat:Int)).toNat:Int)=_;rw[fD,fD];exact pq (a|||b)
theorem NJ(a:UInt32)(n:Nat)(h:n<32):(a.toNat:Int) / 2 ^ n=((a>>>UInt32.ofNat n).toNat:Int):=by
 have e:(UInt32.ofNat n).toNat % 32=n:=by rw[UInt32.toNat_ofNat_of_lt' (by show n<2^32;omega)];omega
 rw[UInt32.toNat_shiftRight,e,Nat.shiftRight_eq_div_pow]
 norm_cast
theorem DG(a:UInt32)(n:Nat)(h:n<32):IntKind.u32.wrap ((a.toNat:Int)*2 ^ n)=((a <<<UInt32.ofNat n).toNat:Int):=by
 have e:(UInt32.ofNat n).toNat % 32=n:=by rw[UInt32.toNat_ofNat_of_lt' (by show n<2^32;omega)];omega
 rw[wrap_u32,UInt32.toNat_shiftLeft,e,Nat.shiftLeft_eq];have q:(a.toNat:Int)*2 ^ n=((a.toNat*2 ^ n:Nat):Int):=by push_cast;rfl
 rw[q];generalize a.toNat*2 ^ n=m;omega
def JR(x:UInt32)(d:Nat):UInt32:=(x <<<UInt32.ofNat (32-d))|||(x>>>UInt32.ofNat d)
end Go.W32
namespace Go.Proofs.YtkmbmfengcdmoaaGreatDoor
open Go.RowKit Go.W32

theorem Qm(d:Nat)(h0:0<d)(h:d<32):bits BinOp.and IntKind.u64 (IntKind.u64.wrap (-(d:Int))) 31=((32-d:Nat):Int):=by
 have key:∀d:Nat,d<32->0<d->bits BinOp.and IntKind.u64 (IntKind.u64.wrap (-(d:Int))) 31=((32-d:Nat):Int):=by decide+kernel
 exact key d h h0
theorem ME{a b:Int}(h:a=b):Ending.returned (.int .u32 a)= .returned (.int .u32 b):=by rw[h]
theorem Pd(x:UInt32)(c d:Nat)(h:c=32-d)(h0:0<d)(hd:d<32):bits BinOp.or IntKind.u32 ((x.toNat:Int)*2 ^ c % 4294967296) ((x.toNat:Int) / 2 ^ (32-c))=((JR x d).toNat:Int):=by
 have h2:32-c=d:=by omega
 rw[<-wrap_u32,DG x c (by omega),h2,NJ x d hd,Mm,JR,h]
set_option maxHeartbeats 400000 in
theorem JQ(x:UInt32)(d:Nat)(h0:0<d)(hd:d<32)(w:World):
  Calls Tryz.prog 274 #[.int .u32 x.toNat, .int .i64 (-(d:Int))] w λe w'=>e= .returned (.int .u32 (JR x d).toNat)/\w=w':=by
 have h1:=Qm d h0 hd;obtain⟨c,hc⟩:=x_ (32-d:Nat)
 rw[<-hc]at h1;have hc1:c<32:=by omega
 have hc2:0<c:=by omega
 have H:=Lib.hid hc;clear hc;go_enter Tryz.func274,Tryz.ntmps274
 go_wp2
 go_ret;exact⟨ME (Pd x c d H.out h0 hd),rfl⟩

def kS(x:UInt32)(l:List Nat):UInt32:=l.foldl (λr d=>r ^^^ JR x d) 0
theorem Gc(x:UInt32)(l:List Nat)(k:Nat)(h:k<l.length):kS x (l.take (k+1))=kS x (l.take k) ^^^ JR x l[k]:=by rw[M1 h,kS,PA];rfl
theorem Pv(a b:UInt32):Value.int .u32 (bits .xor .u32 (a.toNat:Int) (b.toNat:Int))=Value.int .u32 ((a ^^^ b).toNat:Int):=by rw[vR]
set_option maxHeartbeats 400000 in
theorem re(x:UInt32)(b:Nat)(l:List Nat)(w:World)(hl:l.length<=100)(hd:∀d∈l,0<d/\d<32)
  (hc:∀k (h:k<l.length),w.cell? ⟨b,k,none⟩=some (.int .i64 (l[k]:Int))):
  Calls Tryz.prog 241 #[.int .u32 x.toNat, .slice (some ⟨b,0,none⟩) l.length l.length] w λe w'=>e= .returned (.int .u32 (kS x l).toNat)/\w=w':=by
 have HC:=Lib.hid hc;clear hc;go_enter Tryz.func241,Tryz.ntmps241
 go_wp2
 go_loop [5,7,10] (λr _ i=> ∃k:Nat,k<=l.length/\i= .int .i64 k/\r= .int .u32 (kS x (l.take k)).toNat) (λ_ _ i=>l.length- (intOf i).toNat)
 case atStart=>exact⟨0,gu _,rfl,rfl⟩
 case round=>
  obtain⟨k,hk,rfl,rfl⟩:=hrel;by_cases hlt:k<l.length
  ·have hcell:=HC.out k hlt;have hdk:=hd l[k] (KM _);have HS:=Lib.hid (Gc x l k hlt);go_wp2_with (go_at_call 274;refine(JQ x _ hdk.1 hdk.2 _).mono ?_;rintro e w' ⟨rfl,rfl⟩)
   go_round
   case rel=>exact⟨k+1,by omega,by go_num,by rw[HS.out, <-Pv]⟩
   case measure=>simp[intOf];omega
  ·go_wp2
   go_ret;exact⟨by rw[np (by omega)];rfl,rfl⟩

open Go.ay
def W(x:UInt32):Value:= .int .u32 x.toNat
def TG(a b c d:UInt8):UInt32:=a.toUInt32 <<<24|||b.toUInt32 <<<16|||c.toUInt32 <<<8|||d.toUInt32
def be(s:ByteArray)(k:Nat):UInt32:=TG (s.data.getD (4*k) 0) (s.data.getD (4*k+1) 0) (s.data.getD (4*k+2) 0) (s.data.getD (4*k+3) 0)
theorem Qr(a b c d:UInt8):bits BinOp.or IntKind.u32
       (bits BinOp.or IntKind.u32
        (bits BinOp.or IntKind.u32
         (IntKind.u32.wrap (IntKind.u32.wrap ↑a.toNat*16777216))
         (IntKind.u32.wrap (IntKind.u32.wrap ↑b.toNat*65536)))
        (IntKind.u32.wrap (IntKind.u32.wrap ↑c.toNat*256)))
       (IntKind.u32.wrap ↑d.toNat)=((TG a b c d).toNat:Int):=by
 have e (x:UInt8):IntKind.u32.wrap ↑x.toNat=(x.toUInt32.toNat:Int):=by rw[wrap_u32];have:=x.toNat_lt;simp;omega
 rw[e,e,e,e];have h24:=DG a.toUInt32 24 (by omega);have h16:=DG b.toUInt32 16 (by omega);have h8:=DG c.toUInt32 8 (by omega);simp only[show(2:Int)^24=16777216 from rfl,show(2:Int)^16=65536 from rfl,show(2:Int)^8=256 from rfl]at h24 h16 h8;rw[h24,h16,h8,Mm,Mm,Mm];rfl
theorem wj(s:ByteArray)(hs:s.size=64)(k:Nat)(hk:k<16)(i:Nat)(hi:i<4)(h:i<(s.extract (4*k) (4*k+4)).size):(s.extract (4*k) (4*k+4))[i]=s.data.getD (4*k+i) 0:=by rw[ByteArray.getElem_extract,Pw,Si (by show 4*k+i<s.size;omega)];rfl
theorem Oj(s:ByteArray)(hs:s.size=64)(k:Nat)(hk:k<16)(h:(s.extract (4*k) (4*k+4)).size=4):bits BinOp.or IntKind.u32
           (bits BinOp.or IntKind.u32
            (bits BinOp.or IntKind.u32
             (↑(s.extract (4*k) (4*k+4))[0].toNat % 4294967296*16777216 % 4294967296)
             (↑(s.extract (4*k) (4*k+4))[1].toNat % 4294967296*65536 % 4294967296))
            (↑(s.extract (4*k) (4*k+4))[2].toNat % 4294967296*256 % 4294967296))
           (↑(s.extract (4*k) (4*k+4))[3].toNat % 4294967296)=((be s k).toNat:Int):=by
 have:=Qr (s.data.getD (4*k+0) 0) (s.data.getD (4*k+1) 0) (s.data.getD (4*k+2) 0) (s.data.getD (4*k+3) 0);simp only[wrap_u32]at this;rw[wj s hs k hk 0 (by omega),wj s hs k hk 1 (by omega),wj s hs k hk 2 (by omega),wj s hs k hk 3 (by omega)];exact this

theorem JY{α:Type}{f:Nat->α}{k:Nat}{ws:List α}(h:∀j,j<k->ws[j]? =some (f j))(hk:k<ws.length):∀j,j<k+1->(ws.set k (f k))[j]? =some (f j):=by
 intro j hj;by_cases e:j=k
 ·subst e;simp[hk]
 ·rw[List.getElem?_set_ne (by omega)];exact h j (by omega)


theorem TI(a:Act)(d:Nat)(v:Value)(h:d<a.tmps.size):(a.put (some d) v).eval (.tmp d)=v:=by simp[Act.put,Act.eval,h]
theorem TH(a:Act)(d t:Nat)(v:Value)(h:d≠t):(a.put (some d) v).eval (.tmp t)=a.eval (.tmp t):=by simp[Act.put,Act.eval,NM h]
theorem TP(a:Act)(d:Option Nat)(v:Value):(a.put d v).tmps.size=a.tmps.size:=by cases d<;>simp[Act.put]
attribute [local go_sem] TI TH TP
theorem RF(x:UInt32)(b:Nat)(d1 d2:Nat)(w:World)(h1:0<d1/\d1<32)(h2:0<d2/\d2<32)(c1:w.cell? ⟨b,0,none⟩=some (.int .i64 (d1:Int)))(c2:w.cell? ⟨b,1,none⟩=some (.int .i64 (d2:Int))):
  Calls Tryz.prog 241 #[.int .u32 x.toNat, .slice (some ⟨b,0,none⟩) 2 2] w λe w'=>e= .returned (.int .u32 (kS x [d1,d2]).toNat)/\w=w':=
 re x b [d1,d2] w (by simp) (by simp[h1,h2]) (λk hk=>by
  match k,hk with
  |0,_=>exact c1
  |1,_=>exact c2)
theorem RG(x:UInt32)(b:Nat)(d1 d2 d3:Nat)(w:World)(h1:0<d1/\d1<32)(h2:0<d2/\d2<32)(h3:0<d3/\d3<32)(c1:w.cell? ⟨b,0,none⟩=some (.int .i64 (d1:Int)))(c2:w.cell? ⟨b,1,none⟩=some (.int .i64 (d2:Int)))(c3:w.cell? ⟨b,2,none⟩=some (.int .i64 (d3:Int))):
  Calls Tryz.prog 241 #[.int .u32 x.toNat, .slice (some ⟨b,0,none⟩) 3 3] w λe w'=>e= .returned (.int .u32 (kS x [d1,d2,d3]).toNat)/\w=w':=
 re x b [d1,d2,d3] w (by simp) (by simp[h1,h2,h3]) (λk hk=>by
  match k,hk with
  |0,_=>exact c1
  |1,_=>exact c2
  |2,_=>exact c3)

def Sy(x:UInt32):UInt32:=kS x [7,18] ^^^ (x>>>3)
def Sz(x:UInt32):UInt32:=kS x [17,19] ^^^ (x>>>10)
def Dr(l:List UInt32):UInt32:=l.getD (l.length-16) 0+Sy (l.getD (l.length-15) 0)+l.getD (l.length-7) 0+Sz (l.getD (l.length-2) 0)
def mX:Nat->List UInt32->List UInt32
 |0,l=>l
 |n+1,l=>mX n l++ [Dr (mX n l)]
def dM(s:ByteArray):List UInt32:=(List.range 16).map (be s)
theorem yB(s:ByteArray):(dM s).length=16:=by simp[dM]
theorem Ir(n:Nat)(l:List UInt32):(mX n l).length=l.length+n:=by
 induction n with
 |zero=>rfl
 |succ n ih=>simp[mX,ih];omega
theorem AE{ws:List UInt32}{s:ByteArray}(hl:ws.length=64)(h:∀j,j<16->ws[j]? =some (be s j)):ws.take 16=dM s:=by
 apply rC;intro i;by_cases hi:i<16
 ·rw[Sj hi,h i hi];simp[dM,hi]
 ·rw[pz (by simp;omega),pz (by simp[dM];omega)]
theorem mP{ws l:List UInt32}{t i:Nat}(h:ws.take t=l)(hl:l.length=t)(hi:i<t):ws[i]? =some (l.getD i 0):=by rw[<-Sj hi,h,BX,eH (by omega)];rfl
theorem take_set{ws l:List UInt32}{t:Nat}(v:UInt32)(h:ws.take t=l)(ht:t<ws.length):(ws.set t v).take (t+1)=l++ [v]:=by rw[M1 (by simpa using ht),List.take_set_of_le (aL _),h];simp


theorem sJ{w w2:World}{n:Nat}(h:Free.Grow (w.drewN n).drew w2):Below w.heap.size w w2:=⟨h.os,h.tape,h.output,h.size,h.block⟩
theorem qh{w w2:World}(h:Free.Grow w.drew w2):Below w.heap.size w w2:=⟨h.os,h.tape,h.output,h.size,h.block⟩
theorem dJ{w w':World}{p:Addr}{v:Value}(h:w.cell? p=some v)(g:Free.Grow w w'):w'.cell? p=some v:=by rw[Below.cell g (World.block_lt_of_cell? w _ h)];exact h
theorem Rn(a:UInt32):bits .xor .u32 4294967295 (a.toNat:Int)=((~~~a).toNat:Int):=by
 show IntKind.u32.wrap ((BitVec.ofInt 32 4294967295 ^^^ BitVec.ofInt 32 (a.toNat:Int)).toNat:Int)=_;rw[fD]
 have:BitVec.ofInt 32 4294967295 ^^^ a.toBitVec=(~~~a).toBitVec:=by rw[UInt32.toBitVec_not];exact BitVec.allOnes_xor
 rw[this];exact pq (~~~a)
theorem NI(x:UInt32)(c:Int)(n:Nat)(hn:n<32)(hc:c=2 ^ n):(x.toNat:Int) / c=((x>>>UInt32.ofNat n).toNat:Int):=by rw[hc];exact NJ x n hn
theorem add_mod(a b:UInt32):((a.toNat:Int)+(b.toNat:Int)) % 4294967296=((a+b).toNat:Int):=by rw[<-wrap_u32];exact Ql a b
theorem Jj(x16 x15 x7 x2:UInt32):((x16.toNat:Int)+bits BinOp.xor IntKind.u32 (↑(kS x15 [7,18]).toNat) (↑x15.toNat / 8)+ ↑x7.toNat+
  bits BinOp.xor IntKind.u32 (↑(kS x2 [17,19]).toNat) (↑x2.toNat / 1024)) % 4294967296=((x16+Sy x15+x7+Sz x2).toNat:Int):=by
 rw[NI x15 8 3 (by decide) rfl,NI x2 1024 10 (by decide) rfl,vR,vR, <-add_mod, <-add_mod, <-add_mod];simp only[Int.emod_add_emod];rfl

structure S8 where
 a:UInt32
 b:UInt32
 c:UInt32
 d:UInt32
 e:UInt32
 f:UInt32
 g:UInt32
 h:UInt32
def S8.cells(x:S8):List Value:= [W x.a,W x.b,W x.c,W x.d,W x.e,W x.f,W x.g,W x.h]
def tP(x:S8)(kt wt:UInt32):UInt32:=x.h+kS x.e [6,11,25]+((x.e&&&x.f) ^^^ (~~~x.e&&&x.g))+kt+wt
def tQ(x:S8):UInt32:=kS x.a [2,13,22]+(((x.a&&&x.b) ^^^ (x.a&&&x.c)) ^^^ (x.b&&&x.c))
def round(x:S8)(kt wt:UInt32):S8:=⟨tP x kt wt+tQ x,x.a,x.b,x.c,x.d+tP x kt wt,x.e,x.f,x.g⟩
def rounds(K ws:List UInt32)(x:S8):Nat->S8
 |0=>x
 |t+1=>round (rounds K ws x t) (K.getD t 0) (ws.getD t 0)
def S8.add(x y:S8):S8:=⟨x.a+y.a,x.b+y.b,x.c+y.c,x.d+y.d,x.e+y.e,x.f+y.f,x.g+y.g,x.h+y.h⟩
def yO(K:List UInt32)(x:S8)(s:ByteArray):S8:=x.add (rounds K (mX 48 (dM s)) x 64)

def SH(w:World)(s:ByteArray)(x:S8)(i:Value)(wr:World):Prop:=
 ∃(k:Nat) (ws:List UInt32),k<=16/\i= .int .i64 k/\ws.length=64/\(∀j,j<k->ws[j]? =some (be s j))/\ay wr (w.heap.size+1+1) (ws.map W) 331/\ay wr w.heap.size x.cells 292/\ay wr (w.heap.size+1) (List.replicate 8 (W 0)) 292/\Below (w.heap.size) w wr
def Qb(w:World)(s:ByteArray)(x:S8)(i:Value)(wr:World):Prop:=
 ∃(k:Nat) (ws:List UInt32),16<=k/\k<=64/\i= .int .i64 k/\ws.length=64/\ws.take k=mX (k-16) (dM s)/\ay wr (w.heap.size+1+1) (ws.map W) 331/\ay wr w.heap.size x.cells 292/\ay wr (w.heap.size+1) (List.replicate 8 (W 0)) 292/\Below (w.heap.size) w wr
theorem FU{w:World}{s:ByteArray}{x:S8}{k:Nat}{ws l:List UInt32}{w2:World}(hk1:16<=k)(hlt:k<64)(hl:ws.length=64)(hll:l.length=k)(he:l=mX (k-16) (dM s))(ht:ws.take k=l)
  (q0:ay w2 (w.heap.size+1+1) (ws.map W) 331) (q1:ay w2 w.heap.size x.cells 292) (q2:ay w2 (w.heap.size+1) (List.replicate 8 (W 0)) 292) (q3:Below w.heap.size w w2) (v:Int)
  (hv:v=((l.getD (k-16) 0+Sy (l.getD (k-15) 0)+l.getD (k-7) 0+Sz (l.getD (k-2) 0)).toNat:Int)):
  Qb w s x (.int .i64 (↑k+1)) (w2.setCell ⟨w.heap.size+1+1,k,none⟩ (.int .u32 v)):=by
 subst hv;refine⟨k+1,ws.set k (Dr l),by omega,by omega,by go_num,by simp[hl], ?_, ?_,q1.cL (by simp;omega) _,q2.cL (by simp) _,q3.setCell (by simp;omega) _⟩
 ·rw[take_set _ ht (by omega),he,show k+1-16=(k-16)+1 by omega];rfl
 ·rw[Py]
  have:Dr l=l.getD (k-16) 0+Sy (l.getD (k-15) 0)+l.getD (k-7) 0+Sz (l.getD (k-2) 0):=by unfold Dr;rw[hll]
  rw[this];exact q0.set k _

end Go.Proofs.YtkmbmfengcdmoaaGreatDoor
