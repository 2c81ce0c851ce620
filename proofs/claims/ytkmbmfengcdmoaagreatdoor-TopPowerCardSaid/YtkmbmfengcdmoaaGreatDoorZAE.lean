/- Package chain: the text of an entry. Condition: the variables of digest and of strconv hold their numbers. -/
import Derived.Test.YtkmbmfengcdmoaaGreatDoorZAD
import Derived.Lib.ItoaLen
import Derived.Lib.ItoaMem
import Derived.Deep.QuietTactic
import Derived.BigQuiet
import Derived.Test.YtkmbmfengcdmoaaGreatDoorZAA
import Derived.Test.YtkmbmfengcdmoaaGreatDoorZAB
import Derived.Test.YtkmbmfengcdmoaaGreatDoorFree
import Derived.IntWalk
import Derived.Deep.Light
set_option maxRecDepth 100000
set_option linter.all false
namespace Go.Proofs.YtkmbmfengcdmoaaGreatDoor
open Go.RowKit Go.W32 Go.ay Go.Sg

theorem vL{P:Program}{w w':World}{B:Nat}{a:String}{k:IntKind}{c:List Int}(h:Lib.TabIs P w a k c)(d:Below B w w')(f:w.heap.size<=B):Lib.TabIs P w' a k c:=by
 unfold Lib.TabIs World.var? at*;cases hg:P.globalNamed a with
 |none=>simp[hg]at h
 |some g=>
  simp only[hg,Option.bind_some]at h⊢;have e:g<w.heap.size:=by
   rcases PQ g w.heap.size with b|b
   ·exact b
   ·rw[Array.getElem?_eq_none b]at h;simp at h
  rw[d.block g (by omega)];exact h
structure cB (w:World):Prop where
 k:GV w
 p : Lib.TabIs Tryz.prog w "internal/strconv.uint64pow10" .u64 Lib.pow10Tab
theorem cB.below{w w':World}{B:Nat}(h:cB w)(b:Below B w w')(a:w.heap.size<=B):cB w':=⟨h.k.below b a,vL h.p b a⟩
theorem cB.alloc{w:World}(h:cB w)(o:Obj):cB (w.alloc o):=h.below ((Below.refl _ _).alloc (aL _) o) (aL _)
def dec(n:Int):ByteArray:=⟨(Lib.itoa n).toArray⟩
theorem cR(n:Int)(a: -9223372036854775808<=n)(b:n<=9223372036854775807):(dec n).size<=21:=by have:=Lib.itoa_length_le n a b;show(Lib.itoa n).toArray.size<=21;simpa using this
theorem fg(n:Int)(w:World)(a: -9223372036854775808<=n)(b:n<=9223372036854775807)(c:cB w):
  Calls Tryz.prog 59 #[.int .i64 n] w λe w'=>e= .returned (.string (dec n))/\Below w.heap.size w w':=
 (Tryz.strconv_Itoa n a b w c.p).mono λ_ _ ⟨d,k,h,g⟩=>⟨d,by
  subst g;exact⟨rfl,rfl,rfl,by simp,λj f=>Go.Sort.heap_grow_old _ h f⟩⟩

def GC(r y:Int)(t:ByteArray):ByteArray:=(⟨#[101,32]⟩:ByteArray)++dec r++⟨#[32]⟩++dec y++⟨#[32]⟩++t
def iC(r y:Int)(t:ByteArray):Int:=number KC (GC r y t) 2147483646
theorem kN(K:List UInt32)(t:ByteArray)(m:Int)(h:1<=m):0<=number K t m/\number K t m<m:=by unfold number;rw[if_neg (by omega)];exact⟨Int.emod_nonneg _ (by omega),Int.emod_lt_of_pos _ (by omega)⟩
theorem ny(r y:Int)(t:ByteArray):0<=iC r y t/\iC r y t<=2147483645:=by have:=kN KC (GC r y t) 2147483646 (by decide);unfold iC;omega

theorem dU(a b:ByteArray):(a++b).size=a.size+b.size:=by simp
theorem Hu(r y:Int)(t:ByteArray)(w:World)(p: -9223372036854775808<=r)(q:r<=9223372036854775807)(s: -9223372036854775808<=y)(u:y<=9223372036854775807)(K:t.size<=1099511627776)(D:cB w):
  Calls Tryz.prog 56 #[.int .i64 r, .int .i64 y, .string t] w λe w'=>e= .returned (.int .i64 (iC r y t))/\Below w.heap.size w w':=by
 have I:=cR r p q;have J:=cR y s u;have m:=h_ D;have i:=h_ (Below.refl w.heap.size w);have z:=λw h=>fg r w p q h
 have A:=λw h=>fg y w s u h
 have c:(GC r y t).size<140737488355328:=by
  have e:(GC r y t).size=2+(dec r).size+1+(dec y).size+1+t.size:=by unfold GC;rw[dU,dU,dU,dU,dU];rfl
  omega
 have v:=λw h=>sW KC (GC r y t) 2147483646 w c (by decide) h
 unfold iC;obtain⟨a,B⟩:=x_ (dec r)
 obtain⟨b,C⟩:=x_ (dec y)
 unfold GC at v c⊢;rw[<-B]at z I v c⊢;rw[<-C]at A J v c⊢;have F:=h_ z;have G:=h_ A;have H:=h_ v;clear z A v D B C;go_enter Tryz.func56,Tryz.ntmps56;go_wp2_with fail;refine(F.out _ m.out).mono ?_;rintro e L ⟨rfl,d⟩;have n:=h_ (m.out.below d (aL _));have j:=h_ (i.out.trans (d.mono i.out.size));clear d;go_wp2_with fail;refine(G.out _ n.out).mono ?_;rintro e M ⟨rfl,f⟩;have o:=h_ (n.out.below f (aL _));have l:=h_ (j.out.trans (f.mono j.out.size));clear f;go_wp2_with fail;refine(H.out _ o.out.k).mono ?_;rintro e N ⟨rfl,g⟩;have E:=h_ (o.out.below g (aL _));have x:=h_ (l.out.trans (g.mono l.out.size));clear g;go_wp2_with fail;go_ret;exact⟨rfl,x.out⟩
def fT(x:Int):Prop:=1<=x/\x<=2147483645
instance (x:Int):Decidable (fT x):=by unfold fT;infer_instance
def cQ(x:Int):Int:=if fT x then dS 7 x else 0
def lA(x:Int):Int:=if fT x then 0 else 1
theorem rQ(x:Int)(w:World):Calls Tryz.prog 43 #[.int .i64 x] w λe w'=>e= .returned (.tuple #[.int .i64 (cQ x), .int .i64 (lA x)])/\w=w':=by
 by_cases h:fT x
 ·rw[cQ,if_pos h,lA,if_pos h];obtain⟨b,c⟩:=h;go_enter Tryz.func43,Tryz.ntmps43;go_wp2_with (first|(go_at_call 79;refine(MJ _ _ b c).mono ?_;rintro e w' ⟨rfl,rfl⟩)|(go_at_call 55;refine(mL _ _ _ (by omega)).mono ?_;rintro e w' ⟨rfl,rfl⟩))
  go_ret2
  exact⟨rfl,rfl⟩
 ·rw[cQ,if_neg h,lA,if_neg h];have a: ¬(1<=x/\x<=2147483645):=h;have H:=h_ a;clear h a;go_enter Tryz.func43,Tryz.ntmps43;go_wp2_with (go_at_call 79;refine(Ph _ _ H.out).mono ?_;rintro e w' ⟨rfl,rfl⟩)
  go_ret2
  exact⟨rfl,rfl⟩
end Go.Proofs.YtkmbmfengcdmoaaGreatDoor
namespace Go.Proofs.YtkmbmfengcdmoaaGreatDoor
open Go.RowKit Go.ay Go.Jn
def tx(l:List UInt8):ByteArray:=⟨l.toArray⟩
theorem ft(l:List UInt8):(tx l).size=l.length:=by show l.toArray.size=_;simp
theorem gH(l:List UInt8):(tx l).data.toList=l:=by show l.toArray.toList=l;simp
theorem Ks(t:ByteArray):tx t.data.toList=t:=by cases t;rfl
theorem km(a b:List UInt8):tx a++tx b=tx (a++b):=by show(⟨_⟩:ByteArray)=_;apply Sl;simp[tx]
theorem F9(k:Nat):Lib.repeatL ([48]:List UInt8) k=List.replicate k 48:=by
 induction k with
 |zero=>rfl
 |succ k ih=>rw[Lib.repeatL,ih];rfl
theorem aO{w w':World}{p:Addr}{v:Value}(h:w.cell? p=some v)(g:Free.Grow w w'):w'.cell? p=some v:=by rw[g.cell (World.block_lt_of_cell? w _ h)];exact h
theorem rN(n k:Nat)(w:World)(x:n<=9223372036854775807)(u:k<=100)(p:cB w):
  Calls Tryz.prog 188 #[.int .i64 (n:Int), .int .i64 (k:Int)] w λe w'=>e= .returned (.string (tx (fc k n)))/\Below w.heap.size w w':=by
 have h:=h_ (fg (n:Int) w (by omega) (by omega) p);have q:dec (n:Int)=tx (Lib.decDigits n):=by unfold dec;rw[Lib.itoa_nonneg];rfl
 rw[q]at h;have v:(Lib.decDigits n).length<=21:=by have:=Lib.itoa_length_le (n:Int) (by omega) (by omega);rw[Lib.itoa_nonneg]at this;omega
 obtain⟨m,o⟩:=x_ (k- (Lib.decDigits n).length)
 have hm:max ((k:Int)- ((tx (Lib.decDigits n)).size:Int)) 0=(m:Int):=by rw[ft];omega
 have f:=ft (Lib.decDigits n);have l:Hid (∀w,Calls Tryz.prog 223 #[.string ⟨#[48]⟩, .int .i64 (m:Int)] w λe w'=>e= .returned (.string (tx (List.replicate m 48)))/\Below w.heap.size w w'):=λw=>by
  have:=Tryz.strings_Repeat ⟨#[48]⟩ m w (by omega) (by show 1*m<=_;omega);rw[show(⟨#[48]⟩:ByteArray).data.toList= [48] from rfl,F9]at this;exact this
 have g:Hid (tx (List.replicate m 48)++tx (Lib.decDigits n)=tx (fc k n)):=by show _=_;rw[km,o];rfl
 have i:(tx (List.replicate m 48)).size<=100:=by rw[ft,List.length_replicate];omega
 obtain⟨s,a⟩:=x_ (tx (Lib.decDigits n))
 obtain⟨y,b⟩:=x_ (tx (List.replicate m 48))
 rw[<-a]at h hm g f;rw[<-b]at l g i;have t:s.size<=21:=by omega
 clear p q o a b f;go_enter Tryz.func188,Tryz.ntmps188;go_wp2_with fail;refine h.out.mono ?_;rintro e z ⟨rfl,c⟩;have j:=h_ c;clear c;go_wp2_with fail;refine(l.out _).mono ?_;rintro e A ⟨rfl,d⟩;have r:=h_ (j.out.trans (d.mono j.out.size));clear d hm;go_wp2_with fail;go_ret;exact⟨by rw[<-g.out];rfl,r.out⟩
theorem jJ{k n:Nat}(a:1<=k)(h:n<10 ^ k):(tx (fc k n)).size=k:=by rw[ft,gF a h]
theorem E5(b:ByteArray)(w:World)(i:b.size<=9000)(g:cB w):
  Calls Tryz.prog 128 #[.string b] w λe w'=>e= .returned (.string (tx (bR b.data.toList)))/\Below w.heap.size w w':=by
 have d:=h_ (rN b.size 4 w (by omega) (by decide) g);have hz:=jJ (k:=4) (n:=b.size) (by decide) (by omega);have c:Hid (tx (fc 4 b.size)++b=tx (bR b.data.toList)):=by show _=_;unfold bR;rw[<-km,Ks];simp
 obtain⟨p,f⟩:=x_ (tx (fc 4 b.size))
 rw[<-f]at d hz c;clear g f;go_enter Tryz.func128,Tryz.ntmps128;go_wp2_with fail;refine d.out.mono ?_;rintro e j ⟨rfl,a⟩;have h:=h_ a;clear a;go_wp2_with fail;go_ret;exact⟨by rw[<-c.out];rfl,h.out⟩
theorem Qy{i j m:Nat}{u v x:Value}:∀k b r,Free.find [(i, .det u),(j, .det v),(m, .det x)] k≠some (.ind b r):=by
 intro k b r a;simp only[Free.find]at a
 repeat' split at a
 all_goals cases a
theorem Fi(n h l:Nat)(w:World)(K:n<=999999999)(M:h<=1)(N:l<=999999)(m:cB w):
  Calls Tryz.prog 192 #[.agg #[.int .i64 (n:Int), .int .i64 (h:Int), .int .i64 (l:Int)]] w λe w'=>e= .returned (.string (tx (vt n h l)))/\Below w.heap.size w w':=by
 have u:=h_ (λw m=>rN n 9 w (by omega) (by decide) m);have v:=h_ (λw m=>rN h 1 w (by omega) (by decide) m);have x:=h_ (λw m=>rN l 6 w (by omega) (by decide) m);have H:=jJ (k:=9) (n:=n) (by decide) (by omega);have I:=jJ (k:=1) (n:=h) (by decide) (by omega);have J:=jJ (k:=6) (n:=l) (by decide) (by omega);have q:Hid ((tx (fc 9 n)++tx (fc 1 h))++tx (fc 6 l)=tx (vt n h l)):=by show _=_;rw[km,km,List.append_assoc];rfl
 have t:=h_ m;obtain⟨a,z⟩:=x_ (tx (fc 9 n))
 obtain⟨b,A⟩:=x_ (tx (fc 1 h))
 obtain⟨c,B⟩:=x_ (tx (fc 6 l))
 rw[<-z]at u H q;rw[<-A]at v I q;rw[<-B]at x J q;clear m z A B;go_enter Tryz.func192,Tryz.ntmps192;go_wp2_with fail;obtain⟨V,r⟩:=x_ (w.alloc (.cells #[.int .i64 (n:Int), .int .i64 (h:Int), .int .i64 (l:Int)] 187))
 have d:Hid (Below w.heap.size w V):=by rw[r];exact(Below.refl _ w).alloc (aL _) _
 have s:ay V w.heap.size [.int .i64 (n:Int), .int .i64 (h:Int), .int .i64 (l:Int)] 187:=by rw[r];exact ay.new w _ _
 have C:=s.ag 0 _ rfl;have D:=s.ag 1 _ rfl;have E:=s.ag 2 _ rfl;rw[<-r];clear r s;refine Free.ai 11 [(2, .det (.string a)),(5, .det (.string b)),(9, .det (.string c))] (λy=>Below V.heap.size V y/\y.cell? ⟨w.heap.size,0,none⟩=some (.int .i64 (n:Int))/\y.cell? ⟨w.heap.size,1,none⟩=some (.int .i64 (h:Int))/\y.cell? ⟨w.heap.size,2,none⟩=some (.int .i64 (l:Int))) (by kernel_rfl) (by kernel_rfl) (Free.aW Qy) ⟨(Below.refl _ _).drew,C,D,E⟩
  (λ_ _ h g=>⟨h.1.trans (Below.mono g h.1.size),aO h.2.1 g,aO h.2.2.1 g,aO h.2.2.2 g⟩) ?_
 simp only[eJ,dT];clear C D E;iterate 11 (first|(apply Free.aC (Free.wq rfl) rfl;(intro w' j o;refine Free.au (f:=188) (args:= #[.int .i64 (n:Int), .int .i64 9]) (by clear j o;go_simp<;>rfl) ?_;refine(u.out w' (t.out.below (d.out.trans (j.1.mono d.out.size)) (aL _))).mono ?_;rintro e F ⟨rfl,i⟩;exact⟨_,rfl,i,rfl⟩);simp only[Pt])|(apply Free.aC (Free.wq rfl) rfl;(intro w' j o;refine Free.au (f:=188) (args:= #[.int .i64 (h:Int), .int .i64 1]) (by clear j o;go_simp<;>rfl) ?_;refine(v.out w' (t.out.below (d.out.trans (j.1.mono d.out.size)) (aL _))).mono ?_;rintro e F ⟨rfl,i⟩;exact⟨_,rfl,i,rfl⟩);simp only[Pt])|(apply Free.aC (Free.wq rfl) rfl;(intro w' j o;refine Free.au (f:=188) (args:= #[.int .i64 (l:Int), .int .i64 6]) (by clear j o;go_simp<;>rfl) ?_;refine(x.out w' (t.out.below (d.out.trans (j.1.mono d.out.size)) (aL _))).mono ?_;rintro e F ⟨rfl,i⟩;exact⟨_,rfl,i,rfl⟩);simp only[Pt])|(apply Free.ae (Free.wq rfl) rfl;(intro w' j o;obtain⟨G,O,P,Q⟩:=j;clear o G;go_light;go_simp<;>rfl);(try simp only[Pt])))
 apply Free.ax;intro R p _ _;simp only[fm,fo];have L:=h_ (d.out.trans (p.1.mono d.out.size));clear p;go_wp2_with fail;go_ret;exact⟨by rw[<-q.out];rfl,L.out⟩
end Go.Proofs.YtkmbmfengcdmoaaGreatDoor

namespace Go.Proofs.YtkmbmfengcdmoaaGreatDoor
open Go.RowKit Go.W32 Go.ay Go.Sg

def Gj(x:Int)(t:ByteArray):ByteArray:=(⟨#[107,32]⟩:ByteArray)++dec x++⟨#[32]⟩++t
def zD(x:Int)(t:ByteArray):Int:=1+number KC (Gj x t) 2147483645
def lD(x:Int)(t:ByteArray):Int:=dS 7 (zD x t)
def pF(x:Int)(t:ByteArray):Int:=(zD x t+iC (lD x t) (cQ x) t*x) % 2147483646
theorem qs(x:Int)(t:ByteArray):1<=zD x t/\zD x t<=2147483645:=by have:=kN KC (Gj x t) 2147483645 (by decide);unfold zD;omega
theorem jH(b n:Int):0<=dS b n/\dS b n<=2147483646:=by
 unfold dS;split
 ·have:=tw b.toNat n.toNat;unfold gp at this;omega
 ·omega
theorem nG(x:Int):0<=cQ x/\cQ x<=2147483646:=by
 unfold cQ;split
 ·exact jH _ _
 ·omega

set_option maxHeartbeats 400000 in
theorem J4(x:Int)(t:ByteArray)(w:World)(K:fT x)(ht:t.size<=1000000000000)(hT:cB w):
  Calls Tryz.prog 126 #[.int .i64 x, .string t] w λe w'=>e= .returned (.tuple #[.agg #[.int .i64 (lD x t), .int .i64 (pF x t)], .int .i64 0])/\Below w.heap.size w w':=by
 have J:=λw=>rQ x w
 have d7:1<=x:=K.1;have d8:x<=2147483645:=K.2;have V:=nG x;have W:0<=lD x t/\lD x t<=2147483646:=jH _ _;have C:=ny (lD x t) (cQ x) t;have D:=qs x t;have s1:=cR x (by omega) (by omega);have X:=λw h=>fg x w (by omega) (by omega) h
 have F:(Gj x t).size<140737488355328:=by
  have e:(Gj x t).size=2+(dec x).size+1+t.size:=by unfold Gj;rw[dU,dU,dU];rfl
  omega
 have G:=λw h=>sW KC (Gj x t) 2147483645 w F (by decide) h
 have q:=λw h=>Hu (lD x t) (cQ x) t w (by omega) (by omega) (by omega) (by omega) (by omega) h
 have H:=λw=>mL 7 (zD x t) w (by omega)
 change ∀w,Calls _ _ _ _ λe w'=>e= .returned (.int .i64 (lD x t))/\w=w' at H
 have E:lA x=0:=by unfold lA;rw[if_pos K]
 rw[E]at J;have B:pF x t=(zD x t+iC (lD x t) (cQ x) t*x) % 2147483646:=rfl;have Z:zD x t=1+number KC (Gj x t) 2147483645:=rfl;have U:=kN KC (Gj x t) 2147483645 (by decide);unfold Gj at G;obtain⟨a,Q⟩:=x_ (dec x)
 obtain⟨y,T⟩:=x_ (cQ x)
 obtain⟨r,S⟩:=x_ (lD x t)
 obtain⟨k,I⟩:=x_ (zD x t)
 obtain⟨s,Y⟩:=x_ (pF x t)
 have u:number KC (Gj x t) 2147483645=k-1:=by rw[I,Z];omega
 have g:number KC ({data:= #[107,32]}++dec x++ {data:= #[32]}++t) 2147483645=k-1:=u;obtain⟨c,R⟩:=x_ (iC (lD x t) (cQ x) t)
 simp only[g]at G;rw[<-R]at C B;simp only[<-R]at q;rw[<-Q]at s1 G;simp only[<-Q]at X;rw[<-T]at V;simp only[<-T]at J q;rw[<-S]at W⊢;simp only[<-S]at q H;rw[<-I]at B D;simp only[<-I]at H;rw[<-Y]at B⊢;have dl:0<=c*x:=Int.mul_nonneg C.1 (by omega);have d6:c*x<=4611686009837453316:=by have:=Int.mul_le_mul (show c<=2147483646 by omega) (show x<=2147483646 by omega) (by omega) (by omega);omega
 obtain⟨bi,ci⟩:=D;have co:1+(k-1)=k:=by omega
 have I1:=h_ X;have N1:=h_ G;have C1:=h_ q;have P1:=h_ H;have HP:=h_ J;have HS:=h_ B;clear X G q H J B Z u g Q T S I Y R E K U F;have n:=h_ (hT.alloc (.cells #[.int .i64 0, .int .i64 0] 40));have j:=h_ ((Below.refl w.heap.size w).alloc (aL _) (.cells #[.int .i64 0, .int .i64 0] 40));have L:=ay.new w [.int .i64 0, .int .i64 0] 40;clear hT;go_enter Tryz.func126,Tryz.ntmps126;go_wp2_with fail;refine(HP.out _).mono ?_;rintro e w' ⟨rfl,rfl⟩;go_wp2_with fail;refine(I1.out _ n.out).mono ?_;rintro e w1 ⟨rfl,b⟩;have o:=h_ (n.out.below b (aL _));have l:=h_ (j.out.trans (b.mono j.out.size));have M:=L.below b L.lt;clear L b;go_wp2_with fail;refine(N1.out _ o.out.k).mono ?_;rintro e w2 ⟨rfl,d⟩;have p:=h_ (o.out.below d (aL _));have m:=h_ (l.out.trans (d.mono l.out.size));have N:=M.below d M.lt;clear M d;go_wp2_with fail;refine(P1.out _).mono ?_;rintro e w' ⟨rfl,rfl⟩;go_wp2_with fail;refine(C1.out _ p.out).mono ?_;rintro e w3 ⟨rfl,f⟩;have an:=h_ (p.out.below f (aL _));have P:=h_ (m.out.trans (f.mono m.out.size));have i:=N.below f N.lt;have h0:=i.cell 0 (by simp);have h1:=i.cell 1 (by simp);have f0:=i.frozen 0;have f1:=i.frozen 1;simp only[List.getElem_cons_zero,List.getElem_cons_succ]at h0 h1;have O:=(i.set 0 (.int .i64 r)).set 1 (.int .i64 ((k+c*x) % 2147483646));have z:=O.cell 0 (by simp);have A:=O.cell 1 (by simp);simp at z A;clear N i O f;go_wp2_with fail;refine bodyPost_ret (v:= .tuple #[.agg #[.int .i64 r, .int .i64 s], .int .i64 0]) ?_ rfl ⟨rfl,(P.out.setCell (aL _) _).setCell (aL _) _⟩;rw[HS.out];simp[results,Tryz.results126,go_sem,z,A]
def tS(y r s:Int):Prop:=1<=r/\r<=2147483646/\0<=s/\s<=2147483645/\1<=y/\y<=2147483646
instance (y r s:Int):Decidable (tS y r s):=by unfold tS;infer_instance
def mu(y:Int)(t:ByteArray)(r s:Int):Bool:=decide (tS y r s)&&(dS 7 s==r*dS y (iC r y t) % 2147483647)

theorem Pu(y:Int)(t:ByteArray)(r s:Int)(w:World)(h: ¬tS y r s):
  Calls Tryz.prog 15 #[.int .i64 y, .string t, .agg #[.int .i64 r, .int .i64 s]] w λe w'=>e= .returned (.bool false)/\Below w.heap.size w w':=by
 have c:=ay.new w [.int .i64 r, .int .i64 s] 40;have i:=c.cell 0 (by simp);have j:=c.cell 1 (by simp);simp only[List.getElem_cons_zero,List.getElem_cons_succ]at i j;clear c;by_cases a:1<=r/\r<=2147483646
 ·by_cases d:0<=s
  ·by_cases f:s<=2147483645
   ·have b: ¬(1<=y/\y<=2147483646):=λb=>h ⟨a.1,a.2,d,f,b.1,b.2⟩
    have g:=h_ b;have HR:=h_ a;clear h b a;go_enter Tryz.func15,Tryz.ntmps15;go_wp2_with fail;refine(kI _ _ HR.out.1 HR.out.2).mono ?_;rintro e w' ⟨rfl,rfl⟩;go_wp2_with fail;refine(AV _ _ g.out).mono ?_;rintro e w' ⟨rfl,rfl⟩;go_wp2_with fail;go_ret;exact⟨rfl,(Below.refl _ _).alloc (aL _) _⟩
   ·have HR:=h_ a;clear h a;go_enter Tryz.func15,Tryz.ntmps15;go_wp2_with fail;refine(kI _ _ HR.out.1 HR.out.2).mono ?_;rintro e w' ⟨rfl,rfl⟩;go_wp2_with fail;go_ret;exact⟨rfl,(Below.refl _ _).alloc (aL _) _⟩
  ·have HR:=h_ a;clear h a;go_enter Tryz.func15,Tryz.ntmps15;go_wp2_with fail;refine(kI _ _ HR.out.1 HR.out.2).mono ?_;rintro e w' ⟨rfl,rfl⟩;go_wp2_with fail;go_ret;exact⟨rfl,(Below.refl _ _).alloc (aL _) _⟩
 ·have HR:=h_ a;clear h a;go_enter Tryz.func15,Tryz.ntmps15;go_wp2_with fail;refine(AV _ _ HR.out).mono ?_;rintro e w' ⟨rfl,rfl⟩;go_wp2_with fail;go_ret;exact⟨rfl,(Below.refl _ _).alloc (aL _) _⟩
theorem below_drewN{B:Nat}{a w:World}(h:Below B a w)(n:Nat):Below B a (w.drewN n):=⟨h.os,h.tape,h.output,h.size,h.block⟩
theorem Bl{P:Program}{f:FuncId}{args:Array Value}{w:World}{n:Nat}{v:Value}
  (h:Calls P f args (w.drewN n) λe w'=>e= .returned v/\w.drewN n=w'):Calls P f args (w.drewN n) λe a=>e= .returned v/\∃m,a=w.drewN m:=
 h.mono λ_ _ ⟨b,hm⟩=>⟨b,n,hm.symm⟩
set_option maxHeartbeats 400000 in
theorem MX(y:Int)(t:ByteArray)(r s:Int)(w:World)(h:tS y r s)(R:t.size<=1000000000000)(H:cB w):
  Calls Tryz.prog 15 #[.int .i64 y, .string t, .agg #[.int .i64 r, .int .i64 s]] w λe w'=>e= .returned (.bool (dS 7 s==r*dS y (iC r y t) % 2147483647))/\Below w.heap.size w w':=by
 obtain⟨B,i,N,O,C,D⟩:=h;have d:=ay.new w [.int .i64 r, .int .i64 s] 40;have F:=d.cell 0 (by simp);have G:=d.cell 1 (by simp);simp only[List.getElem_cons_zero,List.getElem_cons_succ]at F G;have z:=ny r y t;have m:=λw h=>Hu r y t w (by omega) (by omega) (by omega) (by omega) (by omega) h
 have j:=λw=>mL y (iC r y t) w (by omega)
 have E:=λw=>mL 7 s w (by omega)
 have b:=jH y (iC r y t);obtain⟨c,n⟩:=x_ (iC r y t)
 rw[<-n]at z b⊢;simp only[<-n]at m j;obtain⟨q,o⟩:=x_ (dS y c)
 rw[<-o]at b⊢;simp only[<-o]at j;obtain⟨v,p⟩:=x_ (dS 7 s)
 rw[<-p];simp only[<-p]at E;have A:0<=r*q:=Int.mul_nonneg (by omega) b.1;have M:r*q<=4611686009837453316:=by have:=Int.mul_le_mul i b.2 (by omega) (by omega);omega
 have I:=h_ m;have K:=h_ j;have L:=h_ E;clear n o p m j E;have g:=h_ (H.alloc (.cells #[.int .i64 r, .int .i64 s] 40));have f:=h_ ((Below.refl w.heap.size w).alloc (aL _) (.cells #[.int .i64 r, .int .i64 s] 40));clear H;go_enter Tryz.func15,Tryz.ntmps15;go_wp2_with fail;refine(kI _ _ B i).mono ?_;rintro e w' ⟨rfl,rfl⟩;go_wp2_with fail;refine(kI _ _ C D).mono ?_;rintro e w' ⟨rfl,rfl⟩;go_wp2_with fail;refine(I.out _ g.out).mono ?_;rintro e S ⟨rfl,a⟩;have J:=h_ (g.out.below a (aL _));have l:=h_ (f.out.trans (a.mono f.out.size));have k:=d.below a d.lt;have u:=k.cell 0 (by simp);have x:=k.cell 1 (by simp);simp only[List.getElem_cons_zero,List.getElem_cons_succ]at u x;clear d k a F G;go_wp2_with fail;refine(K.out _).mono ?_;rintro e w' ⟨rfl,rfl⟩;go_wp2_with fail;have P:IntKind.i64.wrap (r*q)=r*q:=IntWalk.i64_in _ (by omega);have Q:(r*q).tmod 2147483647=r*q % 2147483647:=Int.tmod_eq_emod_of_nonneg A
 go_quiet ((go_at_call 55;exact Bl (L.out _)))
 go_wp2_with fail;go_ret;exact⟨rfl,below_drewN l.out _⟩
theorem xt(y:Int)(t:ByteArray)(r s:Int)(w:World)(b:t.size<=1000000000000)(a:cB w):
  Calls Tryz.prog 15 #[.int .i64 y, .string t, .agg #[.int .i64 r, .int .i64 s]] w λe w'=>e= .returned (.bool (mu y t r s))/\Below w.heap.size w w':=by
 unfold mu;by_cases h:tS y r s
 ·rw[dt h,M8];exact MX y t r s w h b a
 ·rw[dy h,R3];exact Pu y t r s w h
end Go.Proofs.YtkmbmfengcdmoaaGreatDoor
namespace Go.Proofs.YtkmbmfengcdmoaaGreatDoor
open Go.RowKit Go.ay
structure aV where
 house:Int
 seq:Int
 day:Int
 prev:ByteArray
 body:ByteArray
 r:Int
 s:Int
def aK(e:aV):List Value:= [.int .i64 e.house, .int .i64 e.seq, .int .i64 e.day, .string e.prev, .string e.body, .int .i64 e.r, .int .i64 e.s]
structure aV.Ok (e:aV):Prop where
 h0: -9223372036854775808<=e.house
 h1:e.house<=9223372036854775807
 q0: -9223372036854775808<=e.seq
 q1:e.seq<=9223372036854775807
 d0: -9223372036854775808<=e.day
 d1:e.day<=9223372036854775807
 r0: -9223372036854775808<=e.r
 r1:e.r<=9223372036854775807
 s0: -9223372036854775808<=e.s
 s1:e.s<=9223372036854775807
 p1:e.prev.size<=9223372036854775807
 b1:e.body.size<=9223372036854775807
def oL(e:aV):Nat->Int
 |0=>e.house
 |1=>e.seq
 |2=>e.day
 |_=>e.prev.size
def Gx(e:aV):Nat->List UInt8
 |0=> [101,110,116,114,121]
 |k+1=>Gx e k++ [32]++(dec (oL e k)).data.toList
def Kq(e:aV):List UInt8:=Gx e 4++ [32]++e.prev.data.toList++e.body.data.toList
def gb(e:aV):ByteArray:=⟨(Kq e).toArray⟩
def RT(w:World)(wb:World)(e:aV)(i:Value)(wr:World):Prop:=∃k:Nat,k<=4/\i= .int .i64 k/\lH wb (w.heap.size+1) (w.heap.size+1) (Gx e k) wr
theorem rG{n:Int}(a: -9223372036854775808<=n)(b:n<=9223372036854775807):(dec n).data.toList.length<=21:=by have:=cR n a b;simpa using this
theorem wQ{e:aV}(h:e.Ok):∀k, -9223372036854775808<=oL e k/\oL e k<=9223372036854775807
 |0=>⟨h.h0,h.h1⟩
 |1=>⟨h.q0,h.q1⟩
 |2=>⟨h.d0,h.d1⟩
 |_+3=>⟨by show _<=(e.prev.size:Int);omega,by have:=h.p1;show(e.prev.size:Int)<=_;omega⟩
theorem xo{e:aV}(h:e.Ok):∀k,(Gx e k).length<=5+22*k
 |0=>by simp[Gx]
 |k+1=>by
  have a:=xo h k
  have:=rG (wQ h k).1 (wQ h k).2;simp only[Gx,fu,kq,qA];omega
theorem Td(a b c d v:Int)(k:Nat)(e:k<4)(hv:(#[Value.int .i64 a, .int .i64 b, .int .i64 c, .int .i64 d]:Array Value)[k]? =some (.int .i64 v))(W:World):
  (Instr.index 124 (.agg #[.int .i64 a, .int .i64 b, .int .i64 c, .int .i64 d]) (.int .i64 (k:Int))).run Tryz.prog W= .ok (.int .i64 v) W:=by
 match k,e with
 |0,_=>cases hv;go_simp<;>rfl
 |1,_=>cases hv;go_simp<;>rfl
 |2,_=>cases hv;go_simp<;>rfl
 |3,_=>cases hv;go_simp<;>rfl
set_option maxHeartbeats 2000000 in
theorem ic(a:aV)(w:World)(S:a.Ok)(hp:a.prev.size<=1000000000)(hb:a.body.size<=1000000000)(I:cB w):
  Calls Tryz.prog 16 #[.agg (aK a).toArray] w λe w'=>e= .returned (.string (gb a))/\Below w.heap.size w w':=by
 have E:(w.alloc (.cells (aK a).toArray 42)).heap.size=w.heap.size+1:=by simp
 have bg:ay (w.alloc (.cells (aK a).toArray 42)) w.heap.size (aK a) 42:=ay.new w (aK a) 42;have A:Below w.heap.size w (w.alloc (.cells (aK a).toArray 42)):=(Below.refl _ _).alloc (aL _) _;have R:=lH.new (w.alloc (.cells (aK a).toArray 42)) (w.alloc (.cells (aK a).toArray 42)) (w.heap.size+1) (Below.refl _ _) (by omega);rw[E]at R;obtain⟨G,j⟩:=x_ (w.alloc (.cells (aK a).toArray 42))
 have u:Hid (∀ {wr:World},Below (w.heap.size+1) G wr->Below w.heap.size w wr):=λh=>A.trans ((j▸h).mono (by omega))
 have S0:Hid (Calls Tryz.prog 57 #[.pointer (some ⟨w.heap.size+1,0,none⟩), .string ⟨#[101,110,116,114,121]⟩] ((w.alloc (.cells (aK a).toArray 42)).alloc (.cells #[.pointer none, .slice none 0 0] 119)) λe w'=>e= .returned (.tuple #[.int .i64 5, .nilIface])/\lH G (w.heap.size+1) (w.heap.size+1) (Gx a 0) w'):=by rw[j];exact R.str ⟨#[101,110,116,114,121]⟩ (by decide)
 have HT:=h_ I;rw[<-j]at bg;have g:=h_ bg;have y:=h_ (xo S);have x:=h_ (wQ S);clear R I bg A E j;obtain⟨o,p,xd,d,xb,xr,xs⟩:=a;go_enter Tryz.func16,Tryz.ntmps16;go_wp2_with fail;refine S0.out.mono ?_;rintro e w1 ⟨rfl,m⟩;obtain⟨a,f⟩:=x_ (⟨o,p,xd,d,xb,xr,xs⟩:aV)
 have s:Hid (RT w G a (.int .i64 0) w1):=⟨0,by decide,rfl,by rw[f];exact m⟩
 have q:=g.out.below m.bl (Nat.lt_succ_self _);have c0:=q.ag 0 _ rfl;have c1:=q.ag 1 _ rfl;have c2:=q.ag 2 _ rfl;have c3:=q.ag 3 _ rfl;rw[<-f]at g y x;have K:oL a 0=o:=by rw[f];rfl
 have L:oL a 1=p:=by rw[f];rfl
 have M:oL a 2=xd:=by rw[f];rfl
 have N:oL a 3=(d.size:Int):=by rw[f];rfl
 have NN:Hid (oL a 0=o/\oL a 1=p/\oL a 2=xd/\oL a 3=(d.size:Int)):=⟨K,L,M,N⟩
 have Z:Hid (a.prev=d/\a.body=xb):=by rw[f];exact⟨rfl,rfl⟩
 have W:Hid (aK a= [.int .i64 o, .int .i64 p, .int .i64 xd, .string d, .string xb, .int .i64 xr, .int .i64 xs]):=by rw[f];rfl
 have EE:=h_ f;clear m q S0 K L M N f S;go_wp2_with fail
 go_loopw [17] (λi wr=>RT w G a i wr) (λi _=>4- (intOf i).toNat)
 case atStart=>exact s.out
 case round=>
  clear s;obtain⟨k,hk,rfl,J⟩:=hrel;have an:=y.out k;by_cases l:k<4
  ·have F:=x.out k;have r:=h_ (J.byte 32 (by omega));have nv:oL a k=if k=0 then o else if k=1 then p else if k=2 then xd else(d.size:Int):=by
    obtain⟨K,L,M,N⟩:=NN.out
    match k,l with
    |0,_=>exact K
    |1,_=>exact L
    |2,_=>exact M
    |3,_=>exact N
   obtain⟨v,H⟩:=x_ (oL a k)
   have D:(#[Value.int .i64 o, .int .i64 p, .int .i64 xd, .int .i64 d.size]:Array Value)[k]? =some (.int .i64 v):=by
    rw[H,nv]
    match k,l with
    |0,_=>rfl
    |1,_=>rfl
    |2,_=>rfl
    |3,_=>rfl
   rw[<-H]at F;have C:=Td _ _ _ _ v k l D;have EV:=h_ H;have bi:(k:Int)<4:=by omega
   have ci:(0:Int)<=(k:Int):=by omega
   clear J nv H D;go_wp2_with fail;refine r.out.mono ?_;rintro e w2 ⟨rfl,b⟩;have X:=h_ b;have t:=h_ (HT.out.below (u.out b.bl) (aL _));have IT:=h_ (λw I=>fg v w F.1 F.2 I);have HD:=h_ (cR v F.1 F.2);clear b r C;go_wp2_with fail;refine(IT.out _ t.out).mono ?_;rintro e w3 ⟨rfl,z⟩;have Y:=h_ (X.out.grow z);clear X t z;go_wp2_with fail;refine(Y.out.str (dec v) (by rw[fu];have:=HD.out;simp only[kq,qA];omega)).mono ?_;rintro e w4 ⟨rfl,c⟩;have Q:Hid (RT w G a (.int .i64 ((k:Int)+1)) w4):=⟨k+1,l,by go_num,by rw[EV.out]at c;exact c⟩
   clear c Y IT HD;go_wp2_with fail
   go_roundw
   case rel=>
    go_light;have key:=Q.out;first|exact key|((repeat apply Exists.intro);exact⟨key,rfl⟩)
   case measure=>simp[intOf];omega
  ·obtain rfl:k=4:=by omega
   have r:=h_ (J.byte 32 (by omega));clear J;go_wp2_with fail;refine r.out.mono ?_;rintro e w2 ⟨rfl,b⟩;have O:=g.out.below b.bl (Nat.lt_succ_self _);rw[W.out]at O;have c3:=O.ag 3 _ rfl;have T:=h_ (b.str d (by rw[fu];simp only[kq,qA];omega));clear b r O;go_wp2_with fail;refine T.out.mono ?_;rintro e w3 ⟨rfl,n⟩;have P:=g.out.below n.bl (Nat.lt_succ_self _);rw[W.out]at P;have c4:=P.ag 4 _ rfl;have U:=h_ (n.str xb (by
    have h3:d.data.toList.length=d.size:=by simp
    rw[fu,fu,h3];simp only[kq,qA];omega))
   clear n T P c3;go_wp2_with fail;refine U.out.mono ?_;rintro e w4 ⟨rfl,c⟩;have V:=h_ c.read;clear c U c4;go_wp2_with fail;refine V.out.mono ?_;rintro e w5 ⟨rfl,B⟩;have HB:=h_ (u.out B.bl);have ET:Hid (gb a=⟨(Gx a 4++ [32]++d.data.toList++xb.data.toList).toArray⟩):=by show gb a=_;unfold gb Kq;rw[Z.out.1,Z.out.2]
   clear B V;go_wp2_with fail;go_ret;exact⟨by rw[<-EE.out,ET.out];simp,HB.out⟩
end Go.Proofs.YtkmbmfengcdmoaaGreatDoor
