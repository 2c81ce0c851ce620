/- Package chain: the text of an entry. Condition: the variables of digest and of strconv hold their numbers. -/
import Derived.Test.YtkmbmfengcdmoaaGreatDoorZAD
import Derived.Lib.ItoaLen
import Derived.Lib.ItoaMem
import Derived.Deep.QuietTactic
import Derived.BigQuiet
import Derived.Test.YtkmbmfengcdmoaaGreatDoorZAA
import Derived.Test.YtkmbmfengcdmoaaGreatDoorZAB
import Derived.Test.YtkmbmfengcdmoaaGreatDoorFree
import Derived.IntWalk
import Derived.Deep.Light
set_option maxRecDepth 100000
set_option linter.all false
namespace Go.Proofs.YtkmbmfengcdmoaaGreatDoor
open Go.RowKit Go.W32 Go.ay Go.Sg

theorem vL{P:Program}{w w':World}{B:Nat}{name:String}{k:IntKind}{zs:List Int}(h:Lib.TabIs P w name k zs)(hb:Below B w w')(hB:w.heap.size<=B):Lib.TabIs P w' name k zs:=by
 unfold Lib.TabIs World.var? at*;cases hg:P.globalNamed name with
 |none=>simp[hg]at h
 |some g=>
  simp only[hg,Option.bind_some]at h⊢;have hlt:g<w.heap.size:=by
   rcases PQ g w.heap.size with h'|h'
   ·exact h'
   ·rw[Array.getElem?_eq_none h']at h;simp at h
  rw[hb.block g (by omega)];exact h
structure cB (w:World):Prop where
 k:GV w
 p : Lib.TabIs Tryz.prog w "internal/strconv.uint64pow10" .u64 Lib.pow10Tab
theorem cB.below{w w':World}{B:Nat}(h:cB w)(hb:Below B w w')(hB:w.heap.size<=B):cB w':=⟨h.k.below hb hB,vL h.p hb hB⟩
theorem cB.alloc{w:World}(h:cB w)(o:Obj):cB (w.alloc o):=h.below ((Below.refl _ _).alloc (aL _) o) (aL _)
def dec(n:Int):ByteArray:=⟨(Lib.itoa n).toArray⟩
theorem cR(n:Int)(h0: -9223372036854775808<=n)(h1:n<=9223372036854775807):(dec n).size<=21:=by have:=Lib.itoa_length_le n h0 h1;show(Lib.itoa n).toArray.size<=21;simpa using this
theorem fg(n:Int)(w:World)(h0: -9223372036854775808<=n)(h1:n<=9223372036854775807)(hT:cB w):
  Calls Tryz.prog 59 #[.int .i64 n] w λe w'=>e= .returned (.string (dec n))/\Below w.heap.size w w':=
 (Tryz.strconv_Itoa n h0 h1 w hT.p).mono λ_ _ ⟨he,k,os,hw⟩=>⟨he,by
  subst hw;exact⟨rfl,rfl,rfl,by simp,λj hj=>Go.Sort.heap_grow_old _ os hj⟩⟩

def GC(r y:Int)(t:ByteArray):ByteArray:=(⟨#[101,32]⟩:ByteArray)++dec r++⟨#[32]⟩++dec y++⟨#[32]⟩++t
def iC(r y:Int)(t:ByteArray):Int:=number KC (GC r y t) 2147483646
theorem kN(K:List UInt32)(t:ByteArray)(m:Int)(h:1<=m):0<=number K t m/\number K t m<m:=by unfold number;rw[if_neg (by omega)];exact⟨Int.emod_nonneg _ (by omega),Int.emod_lt_of_pos _ (by omega)⟩
theorem ny(r y:Int)(t:ByteArray):0<=iC r y t/\iC r y t<=2147483645:=by have:=kN KC (GC r y t) 2147483646 (by decide);unfold iC;omega

theorem dU(a b:ByteArray):(a++b).size=a.size+b.size:=by simp
theorem Hu(r y:Int)(t:ByteArray)(w:World)(hr0: -9223372036854775808<=r)(hr1:r<=9223372036854775807)(hy0: -9223372036854775808<=y)(hy1:y<=9223372036854775807)(ht:t.size<=1099511627776)(hT:cB w):
  Calls Tryz.prog 56 #[.int .i64 r, .int .i64 y, .string t] w λe w'=>e= .returned (.int .i64 (iC r y t))/\Below w.heap.size w w':=by
 have s1:=cR r hr0 hr1;have s2:=cR y hy0 hy1;have HT0:=h_ hT;have HB0:=h_ (Below.refl w.heap.size w);have i1:=λw h=>fg r w hr0 hr1 h
 have i2:=λw h=>fg y w hy0 hy1 h
 have hsz:(GC r y t).size<140737488355328:=by
  have e:(GC r y t).size=2+(dec r).size+1+(dec y).size+1+t.size:=by unfold GC;rw[dU,dU,dU,dU,dU];rfl
  omega
 have n1:=λw h=>sW KC (GC r y t) 2147483646 w hsz (by decide) h
 unfold iC;obtain⟨a,ea⟩:=x_ (dec r)
 obtain⟨b,eb⟩:=x_ (dec y)
 unfold GC at n1 hsz⊢;rw[<-ea]at i1 s1 n1 hsz⊢;rw[<-eb]at i2 s2 n1 hsz⊢;have I1:=h_ i1;have I2:=h_ i2;have N1:=h_ n1;clear i1 i2 n1 hT ea eb;go_enter Tryz.func56,Tryz.ntmps56;go_wp2_with fail;refine(I1.out _ HT0.out).mono ?_;rintro e w1 ⟨rfl,hb1⟩;have HT1:=h_ (HT0.out.below hb1 (aL _));have HB1:=h_ (HB0.out.trans (hb1.mono HB0.out.size));clear hb1;go_wp2_with fail;refine(I2.out _ HT1.out).mono ?_;rintro e w2 ⟨rfl,hb2⟩;have HT2:=h_ (HT1.out.below hb2 (aL _));have HB2:=h_ (HB1.out.trans (hb2.mono HB1.out.size));clear hb2;go_wp2_with fail;refine(N1.out _ HT2.out.k).mono ?_;rintro e w3 ⟨rfl,hb3⟩;have HT3:=h_ (HT2.out.below hb3 (aL _));have HB3:=h_ (HB2.out.trans (hb3.mono HB2.out.size));clear hb3;go_wp2_with fail;go_ret;exact⟨rfl,HB3.out⟩
def fT(x:Int):Prop:=1<=x/\x<=2147483645
instance (x:Int):Decidable (fT x):=by unfold fT;infer_instance
def cQ(x:Int):Int:=if fT x then dS 7 x else 0
def lA(x:Int):Int:=if fT x then 0 else 1
theorem rQ(x:Int)(w:World):Calls Tryz.prog 43 #[.int .i64 x] w λe w'=>e= .returned (.tuple #[.int .i64 (cQ x), .int .i64 (lA x)])/\w=w':=by
 by_cases h:fT x
 ·rw[cQ,if_pos h,lA,if_pos h];obtain⟨h1,h2⟩:=h;go_enter Tryz.func43,Tryz.ntmps43;go_wp2_with (first|(go_at_call 79;refine(MJ _ _ h1 h2).mono ?_;rintro e w' ⟨rfl,rfl⟩)|(go_at_call 55;refine(mL _ _ _ (by omega)).mono ?_;rintro e w' ⟨rfl,rfl⟩))
  go_ret2
  exact⟨rfl,rfl⟩
 ·rw[cQ,if_neg h,lA,if_neg h];have h': ¬(1<=x/\x<=2147483645):=h;have H:=h_ h';clear h h';go_enter Tryz.func43,Tryz.ntmps43;go_wp2_with (go_at_call 79;refine(Ph _ _ H.out).mono ?_;rintro e w' ⟨rfl,rfl⟩)
  go_ret2
  exact⟨rfl,rfl⟩
end Go.Proofs.YtkmbmfengcdmoaaGreatDoor
namespace Go.Proofs.YtkmbmfengcdmoaaGreatDoor
open Go.RowKit Go.ay Go.Jn
def tx(l:List UInt8):ByteArray:=⟨l.toArray⟩
theorem ft(l:List UInt8):(tx l).size=l.length:=by show l.toArray.size=_;simp
theorem gH(l:List UInt8):(tx l).data.toList=l:=by show l.toArray.toList=l;simp
theorem Ks(t:ByteArray):tx t.data.toList=t:=by cases t;rfl
theorem km(a b:List UInt8):tx a++tx b=tx (a++b):=by show(⟨_⟩:ByteArray)=_;apply Sl;simp[tx]
theorem F9(k:Nat):Lib.repeatL ([48]:List UInt8) k=List.replicate k 48:=by
 induction k with
 |zero=>rfl
 |succ k ih=>rw[Lib.repeatL,ih];rfl
theorem aO{w w':World}{p:Addr}{v:Value}(h:w.cell? p=some v)(g:Free.Grow w w'):w'.cell? p=some v:=by rw[g.cell (World.block_lt_of_cell? w _ h)];exact h
theorem rN(n k:Nat)(w:World)(hn:n<=9223372036854775807)(hk:k<=100)(hT:cB w):
  Calls Tryz.prog 188 #[.int .i64 (n:Int), .int .i64 (k:Int)] w λe w'=>e= .returned (.string (tx (fc k n)))/\Below w.heap.size w w':=by
 have I1:=h_ (fg (n:Int) w (by omega) (by omega) hT);have hd:dec (n:Int)=tx (Lib.decDigits n):=by unfold dec;rw[Lib.itoa_nonneg];rfl
 rw[hd]at I1;have hl:(Lib.decDigits n).length<=21:=by have:=Lib.itoa_length_le (n:Int) (by omega) (by omega);rw[Lib.itoa_nonneg]at this;omega
 obtain⟨m,em⟩:=x_ (k- (Lib.decDigits n).length)
 have hm:max ((k:Int)- ((tx (Lib.decDigits n)).size:Int)) 0=(m:Int):=by rw[ft];omega
 have hsz:=ft (Lib.decDigits n);have R1:Hid (∀w,Calls Tryz.prog 223 #[.string ⟨#[48]⟩, .int .i64 (m:Int)] w λe w'=>e= .returned (.string (tx (List.replicate m 48)))/\Below w.heap.size w w'):=λw=>by
  have:=Tryz.strings_Repeat ⟨#[48]⟩ m w (by omega) (by show 1*m<=_;omega);rw[show(⟨#[48]⟩:ByteArray).data.toList= [48] from rfl,F9]at this;exact this
 have EQ:Hid (tx (List.replicate m 48)++tx (Lib.decDigits n)=tx (fc k n)):=by show _=_;rw[km,em];rfl
 have hrs:(tx (List.replicate m 48)).size<=100:=by rw[ft,List.length_replicate];omega
 obtain⟨dd,edd⟩:=x_ (tx (Lib.decDigits n))
 obtain⟨rr,err⟩:=x_ (tx (List.replicate m 48))
 rw[<-edd]at I1 hm EQ hsz;rw[<-err]at R1 EQ hrs;have hds:dd.size<=21:=by omega
 clear hT hd em edd err hsz;go_enter Tryz.func188,Tryz.ntmps188;go_wp2_with fail;refine I1.out.mono ?_;rintro e w1 ⟨rfl,hb1⟩;have L1:=h_ hb1;clear hb1;go_wp2_with fail;refine(R1.out _).mono ?_;rintro e w2 ⟨rfl,hb2⟩;have L2:=h_ (L1.out.trans (hb2.mono L1.out.size));clear hb2 hm;go_wp2_with fail;go_ret;exact⟨by rw[<-EQ.out];rfl,L2.out⟩
theorem jJ{k n:Nat}(hk:1<=k)(h:n<10 ^ k):(tx (fc k n)).size=k:=by rw[ft,gF hk h]
theorem E5(b:ByteArray)(w:World)(hb:b.size<=9000)(hT:cB w):
  Calls Tryz.prog 128 #[.string b] w λe w'=>e= .returned (.string (tx (bR b.data.toList)))/\Below w.heap.size w w':=by
 have P1:=h_ (rN b.size 4 w (by omega) (by decide) hT);have hz:=jJ (k:=4) (n:=b.size) (by decide) (by omega);have EQ:Hid (tx (fc 4 b.size)++b=tx (bR b.data.toList)):=by show _=_;unfold bR;rw[<-km,Ks];simp
 obtain⟨p,ep⟩:=x_ (tx (fc 4 b.size))
 rw[<-ep]at P1 hz EQ;clear hT ep;go_enter Tryz.func128,Tryz.ntmps128;go_wp2_with fail;refine P1.out.mono ?_;rintro e w1 ⟨rfl,hb1⟩;have L1:=h_ hb1;clear hb1;go_wp2_with fail;go_ret;exact⟨by rw[<-EQ.out];rfl,L1.out⟩
theorem Qy{i j m:Nat}{u v x:Value}:∀k mk r,Free.find [(i, .det u),(j, .det v),(m, .det x)] k≠some (.ind mk r):=by
 intro k mk r hf;simp only[Free.find]at hf
 repeat' split at hf
 all_goals cases hf
theorem Fi(n h l:Nat)(w:World)(h1:n<=999999999)(h2:h<=1)(h3:l<=999999)(hT:cB w):
  Calls Tryz.prog 192 #[.agg #[.int .i64 (n:Int), .int .i64 (h:Int), .int .i64 (l:Int)]] w λe w'=>e= .returned (.string (tx (vt n h l)))/\Below w.heap.size w w':=by
 have P1:=h_ (λw hT=>rN n 9 w (by omega) (by decide) hT);have P2:=h_ (λw hT=>rN h 1 w (by omega) (by decide) hT);have P3:=h_ (λw hT=>rN l 6 w (by omega) (by decide) hT);have z1:=jJ (k:=9) (n:=n) (by decide) (by omega);have z2:=jJ (k:=1) (n:=h) (by decide) (by omega);have z3:=jJ (k:=6) (n:=l) (by decide) (by omega);have EQ:Hid ((tx (fc 9 n)++tx (fc 1 h))++tx (fc 6 l)=tx (vt n h l)):=by show _=_;rw[km,km,List.append_assoc];rfl
 have HT:=h_ hT;obtain⟨a,ea⟩:=x_ (tx (fc 9 n))
 obtain⟨b,eb⟩:=x_ (tx (fc 1 h))
 obtain⟨c,ec⟩:=x_ (tx (fc 6 l))
 rw[<-ea]at P1 z1 EQ;rw[<-eb]at P2 z2 EQ;rw[<-ec]at P3 z3 EQ;clear hT ea eb ec;go_enter Tryz.func192,Tryz.ntmps192;go_wp2_with fail;obtain⟨V,eV⟩:=x_ (w.alloc (.cells #[.int .i64 (n:Int), .int .i64 (h:Int), .int .i64 (l:Int)] 187))
 have HBV:Hid (Below w.heap.size w V):=by rw[eV];exact(Below.refl _ w).alloc (aL _) _
 have hk:ay V w.heap.size [.int .i64 (n:Int), .int .i64 (h:Int), .int .i64 (l:Int)] 187:=by rw[eV];exact ay.new w _ _
 have k0:=hk.ag 0 _ rfl;have k1:=hk.ag 1 _ rfl;have k2:=hk.ag 2 _ rfl;rw[<-eV];clear eV hk;refine Free.ai 11 [(2, .det (.string a)),(5, .det (.string b)),(9, .det (.string c))] (λy=>Below V.heap.size V y/\y.cell? ⟨w.heap.size,0,none⟩=some (.int .i64 (n:Int))/\y.cell? ⟨w.heap.size,1,none⟩=some (.int .i64 (h:Int))/\y.cell? ⟨w.heap.size,2,none⟩=some (.int .i64 (l:Int))) (by kernel_rfl) (by kernel_rfl) (Free.aW Qy) ⟨(Below.refl _ _).drew,k0,k1,k2⟩
  (λ_ _ h g=>⟨h.1.trans (Below.mono g h.1.size),aO h.2.1 g,aO h.2.2.1 g,aO h.2.2.2 g⟩) ?_
 simp only[eJ,dT];clear k0 k1 k2;iterate 11 (first|(apply Free.aC (Free.wq rfl) rfl;(intro w' hB hA;refine Free.au (f:=188) (args:= #[.int .i64 (n:Int), .int .i64 9]) (by clear hB hA;go_simp<;>rfl) ?_;refine(P1.out w' (HT.out.below (HBV.out.trans (hB.1.mono HBV.out.size)) (aL _))).mono ?_;rintro e w3 ⟨rfl,hb3⟩;exact⟨_,rfl,hb3,rfl⟩);simp only[Pt])|(apply Free.aC (Free.wq rfl) rfl;(intro w' hB hA;refine Free.au (f:=188) (args:= #[.int .i64 (h:Int), .int .i64 1]) (by clear hB hA;go_simp<;>rfl) ?_;refine(P2.out w' (HT.out.below (HBV.out.trans (hB.1.mono HBV.out.size)) (aL _))).mono ?_;rintro e w3 ⟨rfl,hb3⟩;exact⟨_,rfl,hb3,rfl⟩);simp only[Pt])|(apply Free.aC (Free.wq rfl) rfl;(intro w' hB hA;refine Free.au (f:=188) (args:= #[.int .i64 (l:Int), .int .i64 6]) (by clear hB hA;go_simp<;>rfl) ?_;refine(P3.out w' (HT.out.below (HBV.out.trans (hB.1.mono HBV.out.size)) (aL _))).mono ?_;rintro e w3 ⟨rfl,hb3⟩;exact⟨_,rfl,hb3,rfl⟩);simp only[Pt])|(apply Free.ae (Free.wq rfl) rfl;(intro w' hB hA;obtain⟨qB,r0,r1,r2⟩:=hB;clear hA qB;go_light;go_simp<;>rfl);(try simp only[Pt])))
 apply Free.ax;intro wz hBz _ _;simp only[fm,fo];have L:=h_ (HBV.out.trans (hBz.1.mono HBV.out.size));clear hBz;go_wp2_with fail;go_ret;exact⟨by rw[<-EQ.out];rfl,L.out⟩
end Go.Proofs.YtkmbmfengcdmoaaGreatDoor

namespace Go.Proofs.YtkmbmfengcdmoaaGreatDoor
open Go.RowKit Go.W32 Go.ay Go.Sg

def Gj(x:Int)(t:ByteArray):ByteArray:=(⟨#[107,32]⟩:ByteArray)++dec x++⟨#[32]⟩++t
def zD(x:Int)(t:ByteArray):Int:=1+number KC (Gj x t) 2147483645
def lD(x:Int)(t:ByteArray):Int:=dS 7 (zD x t)
def pF(x:Int)(t:ByteArray):Int:=(zD x t+iC (lD x t) (cQ x) t*x) % 2147483646
theorem qs(x:Int)(t:ByteArray):1<=zD x t/\zD x t<=2147483645:=by have:=kN KC (Gj x t) 2147483645 (by decide);unfold zD;omega
theorem jH(b n:Int):0<=dS b n/\dS b n<=2147483646:=by
 unfold dS;split
 ·have:=tw b.toNat n.toNat;unfold gp at this;omega
 ·omega
theorem nG(x:Int):0<=cQ x/\cQ x<=2147483646:=by
 unfold cQ;split
 ·exact jH _ _
 ·omega

set_option maxHeartbeats 400000 in
theorem J4(x:Int)(t:ByteArray)(w:World)(hx:fT x)(ht:t.size<=1000000000000)(hT:cB w):
  Calls Tryz.prog 126 #[.int .i64 x, .string t] w λe w'=>e= .returned (.tuple #[.agg #[.int .i64 (lD x t), .int .i64 (pF x t)], .int .i64 0])/\Below w.heap.size w w':=by
 have hp:=λw=>rQ x w
 have hx1:1<=x:=hx.1;have hx2:x<=2147483645:=hx.2;have hpr:=nG x;have hrr:0<=lD x t/\lD x t<=2147483646:=jH _ _;have hcr:=ny (lD x t) (cQ x) t;have hkr:=qs x t;have s1:=cR x (by omega) (by omega);have i1:=λw h=>fg x w (by omega) (by omega) h
 have hsz:(Gj x t).size<140737488355328:=by
  have e:(Gj x t).size=2+(dec x).size+1+t.size:=by unfold Gj;rw[dU,dU,dU];rfl
  omega
 have n1:=λw h=>sW KC (Gj x t) 2147483645 w hsz (by decide) h
 have c1:=λw h=>Hu (lD x t) (cQ x) t w (by omega) (by omega) (by omega) (by omega) (by omega) h
 have p1:=λw=>mL 7 (zD x t) w (by omega)
 change ∀w,Calls _ _ _ _ λe w'=>e= .returned (.int .i64 (lD x t))/\w=w' at p1
 have hpe:lA x=0:=by unfold lA;rw[if_pos hx]
 rw[hpe]at hp;have hS:pF x t=(zD x t+iC (lD x t) (cQ x) t*x) % 2147483646:=rfl;have hK:zD x t=1+number KC (Gj x t) 2147483645:=rfl;have hnr:=kN KC (Gj x t) 2147483645 (by decide);unfold Gj at n1;obtain⟨a,ea⟩:=x_ (dec x)
 obtain⟨y,ey⟩:=x_ (cQ x)
 obtain⟨r,er⟩:=x_ (lD x t)
 obtain⟨k,ek⟩:=x_ (zD x t)
 obtain⟨s,es⟩:=x_ (pF x t)
 have enn:number KC (Gj x t) 2147483645=k-1:=by rw[ek,hK];omega
 have enn2:number KC ({data:= #[107,32]}++dec x++ {data:= #[32]}++t) 2147483645=k-1:=enn;obtain⟨c,ec⟩:=x_ (iC (lD x t) (cQ x) t)
 simp only[enn2]at n1;rw[<-ec]at hcr hS;simp only[<-ec]at c1;rw[<-ea]at s1 n1;simp only[<-ea]at i1;rw[<-ey]at hpr;simp only[<-ey]at hp c1;rw[<-er]at hrr⊢;simp only[<-er]at c1 p1;rw[<-ek]at hS hkr;simp only[<-ek]at p1;rw[<-es]at hS⊢;have hm0:0<=c*x:=Int.mul_nonneg hcr.1 (by omega);have hm1:c*x<=4611686009837453316:=by have:=Int.mul_le_mul (show c<=2147483646 by omega) (show x<=2147483646 by omega) (by omega) (by omega);omega
 obtain⟨hk1,hk2⟩:=hkr;have hk3:1+(k-1)=k:=by omega
 have I1:=h_ i1;have N1:=h_ n1;have C1:=h_ c1;have P1:=h_ p1;have HP:=h_ hp;have HS:=h_ hS;clear i1 n1 c1 p1 hp hS hK enn enn2 ea ey er ek es ec hpe hx hnr hsz;have HT0:=h_ (hT.alloc (.cells #[.int .i64 0, .int .i64 0] 40));have HB0:=h_ ((Below.refl w.heap.size w).alloc (aL _) (.cells #[.int .i64 0, .int .i64 0] 40));have B0:=ay.new w [.int .i64 0, .int .i64 0] 40;clear hT;go_enter Tryz.func126,Tryz.ntmps126;go_wp2_with fail;refine(HP.out _).mono ?_;rintro e w' ⟨rfl,rfl⟩;go_wp2_with fail;refine(I1.out _ HT0.out).mono ?_;rintro e w1 ⟨rfl,hb1⟩;have HT1:=h_ (HT0.out.below hb1 (aL _));have HB1:=h_ (HB0.out.trans (hb1.mono HB0.out.size));have B1:=B0.below hb1 B0.lt;clear B0 hb1;go_wp2_with fail;refine(N1.out _ HT1.out.k).mono ?_;rintro e w2 ⟨rfl,hb2⟩;have HT2:=h_ (HT1.out.below hb2 (aL _));have HB2:=h_ (HB1.out.trans (hb2.mono HB1.out.size));have B2:=B1.below hb2 B1.lt;clear B1 hb2;go_wp2_with fail;refine(P1.out _).mono ?_;rintro e w' ⟨rfl,rfl⟩;go_wp2_with fail;refine(C1.out _ HT2.out).mono ?_;rintro e w3 ⟨rfl,hb3⟩;have HT3:=h_ (HT2.out.below hb3 (aL _));have HB3:=h_ (HB2.out.trans (hb3.mono HB2.out.size));have B3:=B2.below hb3 B2.lt;have h0:=B3.cell 0 (by simp);have h1:=B3.cell 1 (by simp);have f0:=B3.frozen 0;have f1:=B3.frozen 1;simp only[List.getElem_cons_zero,List.getElem_cons_succ]at h0 h1;have B4:=(B3.set 0 (.int .i64 r)).set 1 (.int .i64 ((k+c*x) % 2147483646));have h40:=B4.cell 0 (by simp);have h41:=B4.cell 1 (by simp);simp at h40 h41;clear B2 B3 B4 hb3;go_wp2_with fail;refine bodyPost_ret (v:= .tuple #[.agg #[.int .i64 r, .int .i64 s], .int .i64 0]) ?_ rfl ⟨rfl,(HB3.out.setCell (aL _) _).setCell (aL _) _⟩;rw[HS.out];simp[results,Tryz.results126,go_sem,h40,h41]
def tS(y r s:Int):Prop:=1<=r/\r<=2147483646/\0<=s/\s<=2147483645/\1<=y/\y<=2147483646
instance (y r s:Int):Decidable (tS y r s):=by unfold tS;infer_instance
def mu(y:Int)(t:ByteArray)(r s:Int):Bool:=decide (tS y r s)&&(dS 7 s==r*dS y (iC r y t) % 2147483647)

theorem Pu(y:Int)(t:ByteArray)(r s:Int)(w:World)(h: ¬tS y r s):
  Calls Tryz.prog 15 #[.int .i64 y, .string t, .agg #[.int .i64 r, .int .i64 s]] w λe w'=>e= .returned (.bool false)/\Below w.heap.size w w':=by
 have B0:=ay.new w [.int .i64 r, .int .i64 s] 40;have h0:=B0.cell 0 (by simp);have h1:=B0.cell 1 (by simp);simp only[List.getElem_cons_zero,List.getElem_cons_succ]at h0 h1;clear B0;by_cases hr:1<=r/\r<=2147483646
 ·by_cases hs0:0<=s
  ·by_cases hs1:s<=2147483645
   ·have hy: ¬(1<=y/\y<=2147483646):=λhy=>h ⟨hr.1,hr.2,hs0,hs1,hy.1,hy.2⟩
    have HY:=h_ hy;have HR:=h_ hr;clear h hy hr;go_enter Tryz.func15,Tryz.ntmps15;go_wp2_with fail;refine(kI _ _ HR.out.1 HR.out.2).mono ?_;rintro e w' ⟨rfl,rfl⟩;go_wp2_with fail;refine(AV _ _ HY.out).mono ?_;rintro e w' ⟨rfl,rfl⟩;go_wp2_with fail;go_ret;exact⟨rfl,(Below.refl _ _).alloc (aL _) _⟩
   ·have HR:=h_ hr;clear h hr;go_enter Tryz.func15,Tryz.ntmps15;go_wp2_with fail;refine(kI _ _ HR.out.1 HR.out.2).mono ?_;rintro e w' ⟨rfl,rfl⟩;go_wp2_with fail;go_ret;exact⟨rfl,(Below.refl _ _).alloc (aL _) _⟩
  ·have HR:=h_ hr;clear h hr;go_enter Tryz.func15,Tryz.ntmps15;go_wp2_with fail;refine(kI _ _ HR.out.1 HR.out.2).mono ?_;rintro e w' ⟨rfl,rfl⟩;go_wp2_with fail;go_ret;exact⟨rfl,(Below.refl _ _).alloc (aL _) _⟩
 ·have HR:=h_ hr;clear h hr;go_enter Tryz.func15,Tryz.ntmps15;go_wp2_with fail;refine(AV _ _ HR.out).mono ?_;rintro e w' ⟨rfl,rfl⟩;go_wp2_with fail;go_ret;exact⟨rfl,(Below.refl _ _).alloc (aL _) _⟩
theorem below_drewN{B:Nat}{a w:World}(h:Below B a w)(n:Nat):Below B a (w.drewN n):=⟨h.os,h.tape,h.output,h.size,h.block⟩
theorem Bl{P:Program}{f:FuncId}{args:Array Value}{w:World}{n:Nat}{v:Value}
  (h:Calls P f args (w.drewN n) λe w'=>e= .returned v/\w.drewN n=w'):Calls P f args (w.drewN n) λe w''=>e= .returned v/\∃m,w''=w.drewN m:=
 h.mono λ_ _ ⟨he,hm⟩=>⟨he,n,hm.symm⟩
set_option maxHeartbeats 400000 in
theorem MX(y:Int)(t:ByteArray)(r s:Int)(w:World)(h:tS y r s)(ht:t.size<=1000000000000)(hT:cB w):
  Calls Tryz.prog 15 #[.int .i64 y, .string t, .agg #[.int .i64 r, .int .i64 s]] w λe w'=>e= .returned (.bool (dS 7 s==r*dS y (iC r y t) % 2147483647))/\Below w.heap.size w w':=by
 obtain⟨hr1,hr2,hs1,hs2,hy1,hy2⟩:=h;have B0:=ay.new w [.int .i64 r, .int .i64 s] 40;have h0:=B0.cell 0 (by simp);have h1:=B0.cell 1 (by simp);simp only[List.getElem_cons_zero,List.getElem_cons_succ]at h0 h1;have hcr:=ny r y t;have c1:=λw h=>Hu r y t w (by omega) (by omega) (by omega) (by omega) (by omega) h
 have p1:=λw=>mL y (iC r y t) w (by omega)
 have p2:=λw=>mL 7 s w (by omega)
 have hpr:=jH y (iC r y t);obtain⟨c,ec⟩:=x_ (iC r y t)
 rw[<-ec]at hcr hpr⊢;simp only[<-ec]at c1 p1;obtain⟨q,eq⟩:=x_ (dS y c)
 rw[<-eq]at hpr⊢;simp only[<-eq]at p1;obtain⟨v,ev⟩:=x_ (dS 7 s)
 rw[<-ev];simp only[<-ev]at p2;have hm0:0<=r*q:=Int.mul_nonneg (by omega) hpr.1;have hm1:r*q<=4611686009837453316:=by have:=Int.mul_le_mul hr2 hpr.2 (by omega) (by omega);omega
 have C1:=h_ c1;have P1:=h_ p1;have P2:=h_ p2;clear ec eq ev c1 p1 p2;have HT0:=h_ (hT.alloc (.cells #[.int .i64 r, .int .i64 s] 40));have HB0:=h_ ((Below.refl w.heap.size w).alloc (aL _) (.cells #[.int .i64 r, .int .i64 s] 40));clear hT;go_enter Tryz.func15,Tryz.ntmps15;go_wp2_with fail;refine(kI _ _ hr1 hr2).mono ?_;rintro e w' ⟨rfl,rfl⟩;go_wp2_with fail;refine(kI _ _ hy1 hy2).mono ?_;rintro e w' ⟨rfl,rfl⟩;go_wp2_with fail;refine(C1.out _ HT0.out).mono ?_;rintro e w1 ⟨rfl,hb1⟩;have HT1:=h_ (HT0.out.below hb1 (aL _));have HB1:=h_ (HB0.out.trans (hb1.mono HB0.out.size));have B1:=B0.below hb1 B0.lt;have h10:=B1.cell 0 (by simp);have h11:=B1.cell 1 (by simp);simp only[List.getElem_cons_zero,List.getElem_cons_succ]at h10 h11;clear B0 B1 hb1 h0 h1;go_wp2_with fail;refine(P1.out _).mono ?_;rintro e w' ⟨rfl,rfl⟩;go_wp2_with fail;have hw1:IntKind.i64.wrap (r*q)=r*q:=IntWalk.i64_in _ (by omega);have hw2:(r*q).tmod 2147483647=r*q % 2147483647:=Int.tmod_eq_emod_of_nonneg hm0
 go_quiet ((go_at_call 55;exact Bl (P2.out _)))
 go_wp2_with fail;go_ret;exact⟨rfl,below_drewN HB1.out _⟩
theorem xt(y:Int)(t:ByteArray)(r s:Int)(w:World)(ht:t.size<=1000000000000)(hT:cB w):
  Calls Tryz.prog 15 #[.int .i64 y, .string t, .agg #[.int .i64 r, .int .i64 s]] w λe w'=>e= .returned (.bool (mu y t r s))/\Below w.heap.size w w':=by
 unfold mu;by_cases h:tS y r s
 ·rw[dt h,M8];exact MX y t r s w h ht hT
 ·rw[dy h,R3];exact Pu y t r s w h
end Go.Proofs.YtkmbmfengcdmoaaGreatDoor
namespace Go.Proofs.YtkmbmfengcdmoaaGreatDoor
open Go.RowKit Go.ay
structure aV where
 house:Int
 seq:Int
 day:Int
 prev:ByteArray
 body:ByteArray
 r:Int
 s:Int
def aK(e:aV):List Value:= [.int .i64 e.house, .int .i64 e.seq, .int .i64 e.day, .string e.prev, .string e.body, .int .i64 e.r, .int .i64 e.s]
structure aV.Ok (e:aV):Prop where
 h0: -9223372036854775808<=e.house
 h1:e.house<=9223372036854775807
 q0: -9223372036854775808<=e.seq
 q1:e.seq<=9223372036854775807
 d0: -9223372036854775808<=e.day
 d1:e.day<=9223372036854775807
 r0: -9223372036854775808<=e.r
 r1:e.r<=9223372036854775807
 s0: -9223372036854775808<=e.s
 s1:e.s<=9223372036854775807
 p1:e.prev.size<=9223372036854775807
 b1:e.body.size<=9223372036854775807
def oL(e:aV):Nat->Int
 |0=>e.house
 |1=>e.seq
 |2=>e.day
 |_=>e.prev.size
def Gx(e:aV):Nat->List UInt8
 |0=> [101,110,116,114,121]
 |k+1=>Gx e k++ [32]++(dec (oL e k)).data.toList
def Kq(e:aV):List UInt8:=Gx e 4++ [32]++e.prev.data.toList++e.body.data.toList
def gb(e:aV):ByteArray:=⟨(Kq e).toArray⟩
def RT(w:World)(wb:World)(e:aV)(i:Value)(wr:World):Prop:=∃k:Nat,k<=4/\i= .int .i64 k/\lH wb (w.heap.size+1) (w.heap.size+1) (Gx e k) wr
theorem rG{n:Int}(h0: -9223372036854775808<=n)(h1:n<=9223372036854775807):(dec n).data.toList.length<=21:=by have:=cR n h0 h1;simpa using this
theorem wQ{e:aV}(h:e.Ok):∀k, -9223372036854775808<=oL e k/\oL e k<=9223372036854775807
 |0=>⟨h.h0,h.h1⟩
 |1=>⟨h.q0,h.q1⟩
 |2=>⟨h.d0,h.d1⟩
 |_+3=>⟨by show _<=(e.prev.size:Int);omega,by have:=h.p1;show(e.prev.size:Int)<=_;omega⟩
theorem xo{e:aV}(h:e.Ok):∀k,(Gx e k).length<=5+22*k
 |0=>by simp[Gx]
 |k+1=>by
  have ih:=xo h k
  have:=rG (wQ h k).1 (wQ h k).2;simp only[Gx,fu,kq,qA];omega
theorem Td(a b c d v:Int)(k:Nat)(hk:k<4)(hv:(#[Value.int .i64 a, .int .i64 b, .int .i64 c, .int .i64 d]:Array Value)[k]? =some (.int .i64 v))(W:World):
  (Instr.index 124 (.agg #[.int .i64 a, .int .i64 b, .int .i64 c, .int .i64 d]) (.int .i64 (k:Int))).run Tryz.prog W= .ok (.int .i64 v) W:=by
 match k,hk with
 |0,_=>cases hv;go_simp<;>rfl
 |1,_=>cases hv;go_simp<;>rfl
 |2,_=>cases hv;go_simp<;>rfl
 |3,_=>cases hv;go_simp<;>rfl
set_option maxHeartbeats 2000000 in
theorem ic(e0:aV)(w:World)(ho:e0.Ok)(hp:e0.prev.size<=1000000000)(hb:e0.body.size<=1000000000)(hT:cB w):
  Calls Tryz.prog 16 #[.agg (aK e0).toArray] w λe w'=>e= .returned (.string (gb e0))/\Below w.heap.size w w':=by
 have hsz:(w.alloc (.cells (aK e0).toArray 42)).heap.size=w.heap.size+1:=by simp
 have bg:ay (w.alloc (.cells (aK e0).toArray 42)) w.heap.size (aK e0) 42:=ay.new w (aK e0) 42;have hbw:Below w.heap.size w (w.alloc (.cells (aK e0).toArray 42)):=(Below.refl _ _).alloc (aL _) _;have bn:=lH.new (w.alloc (.cells (aK e0).toArray 42)) (w.alloc (.cells (aK e0).toArray 42)) (w.heap.size+1) (Below.refl _ _) (by omega);rw[hsz]at bn;obtain⟨wb,ewb⟩:=x_ (w.alloc (.cells (aK e0).toArray 42))
 have LOW:Hid (∀ {wr:World},Below (w.heap.size+1) wb wr->Below w.heap.size w wr):=λh=>hbw.trans ((ewb▸h).mono (by omega))
 have S0:Hid (Calls Tryz.prog 57 #[.pointer (some ⟨w.heap.size+1,0,none⟩), .string ⟨#[101,110,116,114,121]⟩] ((w.alloc (.cells (aK e0).toArray 42)).alloc (.cells #[.pointer none, .slice none 0 0] 119)) λe w'=>e= .returned (.tuple #[.int .i64 5, .nilIface])/\lH wb (w.heap.size+1) (w.heap.size+1) (Gx e0 0) w'):=by rw[ewb];exact bn.str ⟨#[101,110,116,114,121]⟩ (by decide)
 have HT:=h_ hT;rw[<-ewb]at bg;have HBK:=h_ bg;have TLA:=h_ (xo ho);have NOK:=h_ (wQ ho);clear bn hT bg hbw hsz ewb;obtain⟨xh,xq,xd,xp,xb,xr,xs⟩:=e0;go_enter Tryz.func16,Tryz.ntmps16;go_wp2_with fail;refine S0.out.mono ?_;rintro e w1 ⟨rfl,hd1⟩;obtain⟨e0,ee⟩:=x_ (⟨xh,xq,xd,xp,xb,xr,xs⟩:aV)
 have HST:Hid (RT w wb e0 (.int .i64 0) w1):=⟨0,by decide,rfl,by rw[ee];exact hd1⟩
 have B1:=HBK.out.below hd1.bl (Nat.lt_succ_self _);have c0:=B1.ag 0 _ rfl;have c1:=B1.ag 1 _ rfl;have c2:=B1.ag 2 _ rfl;have c3:=B1.ag 3 _ rfl;rw[<-ee]at HBK TLA NOK;have n0:oL e0 0=xh:=by rw[ee];rfl
 have n1:oL e0 1=xq:=by rw[ee];rfl
 have n2:oL e0 2=xd:=by rw[ee];rfl
 have n3:oL e0 3=(xp.size:Int):=by rw[ee];rfl
 have NN:Hid (oL e0 0=xh/\oL e0 1=xq/\oL e0 2=xd/\oL e0 3=(xp.size:Int)):=⟨n0,n1,n2,n3⟩
 have EP:Hid (e0.prev=xp/\e0.body=xb):=by rw[ee];exact⟨rfl,rfl⟩
 have CE:Hid (aK e0= [.int .i64 xh, .int .i64 xq, .int .i64 xd, .string xp, .string xb, .int .i64 xr, .int .i64 xs]):=by rw[ee];rfl
 have EE:=h_ ee;clear hd1 B1 S0 n0 n1 n2 n3 ee ho;go_wp2_with fail
 go_loopw [17] (λi wr=>RT w wb e0 i wr) (λi _=>4- (intOf i).toNat)
 case atStart=>exact HST.out
 case round=>
  clear HST;obtain⟨k,hk,rfl,hd⟩:=hrel;have hlen:=TLA.out k;by_cases hk4:k<4
  ·have nk:=NOK.out k;have C1:=h_ (hd.byte 32 (by omega));have nv:oL e0 k=if k=0 then xh else if k=1 then xq else if k=2 then xd else(xp.size:Int):=by
    obtain⟨n0,n1,n2,n3⟩:=NN.out
    match k,hk4 with
    |0,_=>exact n0
    |1,_=>exact n1
    |2,_=>exact n2
    |3,_=>exact n3
   obtain⟨v,ev⟩:=x_ (oL e0 k)
   have hix:(#[Value.int .i64 xh, .int .i64 xq, .int .i64 xd, .int .i64 xp.size]:Array Value)[k]? =some (.int .i64 v):=by
    rw[ev,nv]
    match k,hk4 with
    |0,_=>rfl
    |1,_=>rfl
    |2,_=>rfl
    |3,_=>rfl
   rw[<-ev]at nk;have hidx:=Td _ _ _ _ v k hk4 hix;have EV:=h_ ev;have hki:(k:Int)<4:=by omega
   have k00:(0:Int)<=(k:Int):=by omega
   clear hd nv ev hix;go_wp2_with fail;refine C1.out.mono ?_;rintro e w2 ⟨rfl,hd2⟩;have D2:=h_ hd2;have HT2:=h_ (HT.out.below (LOW.out hd2.bl) (aL _));have IT:=h_ (λw hT=>fg v w nk.1 nk.2 hT);have HD:=h_ (cR v nk.1 nk.2);clear hd2 C1 hidx;go_wp2_with fail;refine(IT.out _ HT2.out).mono ?_;rintro e w3 ⟨rfl,hb3⟩;have D3:=h_ (D2.out.grow hb3);clear D2 HT2 hb3;go_wp2_with fail;refine(D3.out.str (dec v) (by rw[fu];have:=HD.out;simp only[kq,qA];omega)).mono ?_;rintro e w4 ⟨rfl,hd4⟩;have KEY:Hid (RT w wb e0 (.int .i64 ((k:Int)+1)) w4):=⟨k+1,hk4,by go_num,by rw[EV.out]at hd4;exact hd4⟩
   clear hd4 D3 IT HD;go_wp2_with fail
   go_roundw
   case rel=>
    go_light;have key:=KEY.out;first|exact key|((repeat apply Exists.intro);exact⟨key,rfl⟩)
   case measure=>simp[intOf];omega
  ·obtain rfl:k=4:=by omega
   have C1:=h_ (hd.byte 32 (by omega));clear hd;go_wp2_with fail;refine C1.out.mono ?_;rintro e w2 ⟨rfl,hd2⟩;have B2:=HBK.out.below hd2.bl (Nat.lt_succ_self _);rw[CE.out]at B2;have c3:=B2.ag 3 _ rfl;have C2:=h_ (hd2.str xp (by rw[fu];simp only[kq,qA];omega));clear hd2 C1 B2;go_wp2_with fail;refine C2.out.mono ?_;rintro e w3 ⟨rfl,hd3⟩;have B3:=HBK.out.below hd3.bl (Nat.lt_succ_self _);rw[CE.out]at B3;have c4:=B3.ag 4 _ rfl;have C3:=h_ (hd3.str xb (by
    have h3:xp.data.toList.length=xp.size:=by simp
    rw[fu,fu,h3];simp only[kq,qA];omega))
   clear hd3 C2 B3 c3;go_wp2_with fail;refine C3.out.mono ?_;rintro e w4 ⟨rfl,hd4⟩;have C4:=h_ hd4.read;clear hd4 C3 c4;go_wp2_with fail;refine C4.out.mono ?_;rintro e w5 ⟨rfl,hd5⟩;have HB:=h_ (LOW.out hd5.bl);have ET:Hid (gb e0=⟨(Gx e0 4++ [32]++xp.data.toList++xb.data.toList).toArray⟩):=by show gb e0=_;unfold gb Kq;rw[EP.out.1,EP.out.2]
   clear hd5 C4;go_wp2_with fail;go_ret;exact⟨by rw[<-EE.out,ET.out];simp,HB.out⟩
end Go.Proofs.YtkmbmfengcdmoaaGreatDoor
