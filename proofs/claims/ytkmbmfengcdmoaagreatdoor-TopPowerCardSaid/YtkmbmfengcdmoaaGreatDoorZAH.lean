/- slices.Clone of a slice that reads as a list, whatever its elements are. No condition. -/
import Derived.Test.YtkmbmfengcdmoaaGreatDoorZAE
import Derived.Test.YtkmbmfengcdmoaaGreatDoorZAG
import Derived.Lib.SmallJoins
import Derived.Shelf.SlicesE.Clone
import Derived.Test.YtkmbmfengcdmoaaGreatDoorZAA
set_option linter.all false
set_option maxRecDepth 100000
namespace Go.Proofs.YtkmbmfengcdmoaaGreatDoor
open Go.RowKit Go.W32 Go.ay Go.Sg

theorem xY(a b:Nat):((a*b % gp:Nat):Int)=(a:Int)*(b:Int) % 2147483647:=by rw[Int.natCast_emod,Int.natCast_mul];rfl
theorem FM{b n:Int}(a:1<=b)(c:b<=2147483646)(d:0<=n):∃q:Nat,1<=q/\q<gp/\dS b n=(q:Int)/\q=pw b.toNat n.toNat:=
 ⟨pw b.toNat n.toNat,O9 _ _ (by omega) (by unfold gp;omega),tw _ _,iw a c d,rfl⟩
theorem vy{b n:Int}(a:1<=b)(c:b<=2147483646)(d:0<=n):1<=dS b n:=by obtain⟨q,h,_,e,_⟩:=FM a c d;omega
theorem rP{x:Int}(h:fT x):cQ x=dS 7 x:=by unfold cQ;rw[if_pos h]
theorem zf{x:Int}(h:fT x):1<=cQ x:=by rw[rP h];exact vy (by decide) (by decide) (by have:=h.1;omega)
theorem DF(x:Int)(t:ByteArray):1<=lD x t:=vy (by decide) (by decide) (by have:=qs x t;omega)
theorem J3(x:Int)(t:ByteArray):lD x t<=2147483646:=(jH _ _).2
theorem qt(x:Int)(t:ByteArray):0<=pF x t/\pF x t<=2147483645:=by unfold pF;omega
theorem BU{x:Int}(h:fT x)(t:ByteArray):tS (cQ x) (lD x t) (pF x t):=
 ⟨DF x t,J3 x t,(qt x t).1,(qt x t).2,zf h,(nG x).2⟩
theorem sign_eq{x:Int}(h:fT x)(t:ByteArray):dS 7 (pF x t)=lD x t*dS (cQ x) (iC (lD x t) (cQ x) t) % 2147483647:=by
 obtain⟨c,d⟩:∃c:Nat,iC (lD x t) (cQ x) t=c:=⟨_,(Int.toNat_of_nonneg (ny _ _ _).1).symm⟩
 obtain⟨k,e⟩:∃k:Nat,zD x t=k:=⟨(zD x t).toNat,by have:=qs x t;omega⟩
 obtain⟨z,hz⟩:∃z:Nat,x=z:=⟨x.toNat,by have:=h.1;omega⟩
 have g:pF x t=((k+c*z) % 2147483646:Nat):=by unfold pF;rw[d,e,hz,Int.natCast_emod,Int.natCast_add,Int.natCast_mul];rfl
 have f:lD x t=(pw 7 k:Nat):=by unfold lD;rw[e,iw (by decide) (by decide) (by omega)];rfl
 have i:cQ x=(pw 7 z:Nat):=by rw[rP h,hz,iw (by decide) (by decide) (by omega)];rfl
 have a:=zf h;have b:=(nG x).2;rw[d,g,iw (by decide) (by decide) (by omega),iw a b (by omega),f,i];simp only[tZ];rw[show(7:Int).toNat=7 from rfl,O7 7 _ (by decide) (by decide),tz,nH,B8 z c,xY]
theorem Kt{x:Int}(h:fT x)(t:ByteArray):mu (cQ x) t (lD x t) (pF x t)=true:=by unfold mu;rw[dt (BU h t),sign_eq h t];simp
theorem nz(n:Nat):dec (n:Int)=⟨(Lib.decDigits n).toArray⟩:=by unfold dec;rw[Lib.itoa_nonneg]
def Oz(d:Nat):ByteArray:=⟨#[UInt8.ofNat (48+d)]⟩
theorem wh{a b:ByteArray}(h:a.data.toList=b.data.toList):a=b:=by cases a;cases b;congr 1;exact M5 h
theorem Ec(a b:ByteArray):(a++b).data.toList=a.data.toList++b.data.toList:=by simp
theorem bI(n:Nat)(h:9<n):dec (n:Int)=dec ((n / 10:Nat):Int)++Oz (n % 10):=by rw[nz,nz];apply wh;rw[Ec,Lib.decDigits,dif_neg (by omega)];simp[Oz]
theorem du(n:Nat)(h:n<=9):dec (n:Int)=Oz n:=by rw[nz,Lib.decDigits_one (by omega)];rfl
end Go.Proofs.YtkmbmfengcdmoaaGreatDoor
namespace Go.Proofs.YtkmbmfengcdmoaaGreatDoor
open Go.Sg Go.W32

theorem KV(l:List aV)(house secret day:Int)(body:ByteArray):gb (dn l house secret day body)=gb (vn l house day body):=rfl
theorem Jg(l:List aV)(house secret day:Int)(body:ByteArray):gD l (dn l house secret day body) house=gD l (Fq l house day body) house:=rfl
theorem Cj{l:List aV}{house secret day:Int}{body:ByteArray}(h:eI l house secret day body=0):fT secret/\(iA l house (cQ secret)).1=0/\gD l (Fq l house day body) house=0:=by
 unfold eI at h;split at h
 ·rename_i b;split at h
  ·rename_i a;exact⟨b,a,h⟩
  ·rename_i a;exact absurd h a
 ·cases h
theorem zE{l:List aV}{house secret day:Int}{body:ByteArray}(a:fT secret):nM (dn l house secret day body) (cQ secret)=true:=by unfold nM;rw[KV];exact Kt a _
theorem mA{l:List aV}{house secret day:Int}{body:ByteArray}(h:eI l house secret day body=0):(iA (l++ [dn l house secret day body]) house (cQ secret)).1=0:=by
 obtain⟨m,j,hm⟩:=Cj h;obtain⟨k,g⟩:=(kC l house _).1 j;refine(kC _ _ _).2 ⟨k,λi e a=> ?_⟩;by_cases c:i<l.length
 ·rw[xL c]at a;rw[<-g i e a];unfold iD;rw[P7 (Nat.le_of_lt c)]
 ·have b:i=l.length:=by have:=(jS.1 a).1;simp at this;omega
  subst b;simp at a;subst a;unfold iD;rw[List.take_left,Jg,hm,if_pos rfl];have d:(dn l house secret day body).prev=fF l:=rfl;rw[d];have f:mu (cQ secret) (gb (dn l house secret day body)) (dn l house secret day body).r (dn l house secret day body).s=true:=zE m;rw[f];simp

theorem gZ(n:Nat)(h:n<2 ^ 32):dS 7 (n:Int)=(AD 32 7 n 1:Nat):=by rw[iw (by decide) (by decide) (by omega),tZ,show(7:Int).toNat=7 from rfl,gG 7 n h]
theorem Tj:dS 7 5=16807:=(gZ 5 (by decide)).trans (by decide+kernel)
theorem zx:fT 5:=by decide
theorem oU:cQ 5=16807:=(rP zx).trans Tj
def ta:ByteArray:=⟨#[101,110,116,114,121,32,48,32,48,32,51,32,48,32,97]⟩
def tc:ByteArray:=⟨#[101,110,116,114,121,32,48,32,48,32,51,32,48,32,99]⟩
theorem Em:dec 0=⟨#[48]⟩:=(du 0 (by decide)).trans rfl
theorem Oy:dec 3=⟨#[51]⟩:=(du 3 (by decide)).trans rfl
theorem Ls:dec 5=⟨#[53]⟩:=(du 5 (by decide)).trans rfl
theorem Ia:dec 16807=⟨#[49,54,56,48,55]⟩:=by have a:=bI 16807 (by decide);have b:=bI 1680 (by decide);have c:=bI 168 (by decide);have d:=bI 16 (by decide);have e:=du 1 (by decide);simp only[Nat.reduceDiv,Nat.reduceMod]at a b c d;refine a.trans ?_;rw[b,c,d,e];decide+kernel
theorem Qx:dec 1489275650=⟨#[49,52,56,57,50,55,53,54,53,48]⟩:=by have b:=bI 1489275650 (by decide);have c:=bI 148927565 (by decide);have d:=bI 14892756 (by decide);have e:=bI 1489275 (by decide);have f:=bI 148927 (by decide);have g:=bI 14892 (by decide);have h:=bI 1489 (by decide);have i:=bI 148 (by decide);have j:=bI 14 (by decide);have a:=du 1 (by decide);simp only[Nat.reduceDiv,Nat.reduceMod]at b c d e f g h i j;refine b.trans ?_;rw[c,d,e,f,g,h,i,j,a];decide+kernel
theorem NL:gb ⟨0,0,3,⟨#[]⟩,⟨#[97]⟩,0,0⟩=ta:=by
 have:Kq ⟨0,0,3,⟨#[]⟩,⟨#[97]⟩,0,0⟩= [101,110,116,114,121]++ [32]++(dec 0).data.toList++ [32]++(dec 0).data.toList++ [32]++(dec 3).data.toList++ [32]++(dec 0).data.toList++ [32]++ []++ [97]:=by rfl
 unfold gb;rw[this,Em,Oy];rfl
theorem RU:gb ⟨0,0,3,⟨#[]⟩,⟨#[99]⟩,0,0⟩=tc:=by
 have:Kq ⟨0,0,3,⟨#[]⟩,⟨#[99]⟩,0,0⟩= [101,110,116,114,121]++ [32]++(dec 0).data.toList++ [32]++(dec 0).data.toList++ [32]++(dec 3).data.toList++ [32]++(dec 0).data.toList++ [32]++ []++ [99]:=by rfl
 unfold gb;rw[this,Em,Oy];rfl
theorem TK:zD 5 ta=406066904:=by unfold zD Gj;rw[Ls];kernel_rfl
theorem TR:lD 5 ta=1489275650:=by unfold lD;rw[TK];exact(gZ 406066904 (by decide)).trans (by decide+kernel)
theorem T5:iC 1489275650 16807 ta=84319894:=by unfold iC GC;rw[Qx,Ia];kernel_rfl
theorem T6:iC 1489275650 16807 tc=706663265:=by unfold iC GC;rw[Qx,Ia];kernel_rfl
theorem Ue:pF 5 ta=827666374:=by unfold pF;rw[oU,TR,TK,T5];rfl
theorem TQ(n:Nat)(h:n<2 ^ 32):dS 16807 (n:Int)=(AD 32 16807 n 1:Nat):=by rw[iw (by decide) (by decide) (by omega),tZ,show(16807:Int).toNat=16807 from rfl,gG 16807 n h]
theorem Ps:mu 16807 tc (lD 5 ta) (pF 5 ta)=false:=by rw[TR,Ue];unfold mu;rw[T6];have a:dS 7 827666374=1168526879:=(gZ 827666374 (by decide)).trans (by decide+kernel);have b:dS 16807 706663265=1655303818:=(TQ 706663265 (by decide)).trans (by decide+kernel);rw[a,b];decide
end Go.Proofs.YtkmbmfengcdmoaaGreatDoor
namespace Go.Proofs.YtkmbmfengcdmoaaGreatDoor
open Go.RowKit Go.ay Go.Opn Go.Apl Go.Sg

theorem ky(l:List aV)(house secret day:Int)(body:ByteArray)(k:l.length<=1000000)
  (c: -9223372036854775808<=house) (d:house<=9223372036854775807) (a: -9223372036854775808<=day) (b:day<=9223372036854775807) (h:body.size<=1000000000):(dn l house secret day body).Ok/\(dn l house secret day body).prev.size<=1000000000/\(dn l house secret day body).body.size<=1000000000:=by
 have i:=gW l;obtain⟨t,g⟩:=x_ (gb (vn l house day body))
 have e:=DF secret t;have f:=J3 secret t;have j:=qt secret t;rw[g]at e f j;refine⟨⟨c,d, ?_, ?_,a,b, ?_, ?_, ?_, ?_, ?_, ?_⟩, ?_,h⟩
 ·show(-9223372036854775808:Int)<=(l.length:Int);omega
 ·show(l.length:Int)<=9223372036854775807;omega
 ·show(-9223372036854775808:Int)<=lD secret _;omega
 ·show lD secret _<=(9223372036854775807:Int);omega
 ·show(-9223372036854775808:Int)<=pF secret _;omega
 ·show pF secret _<=(9223372036854775807:Int);omega
 ·show(fF l).size<=_;omega
 ·show body.size<=_;omega
 ·show(fF l).size<=_;omega
def xa:aV:=dn [] 0 5 3 ⟨#[97]⟩
def xb:aV:=dn [xa] 0 5 4 ⟨#[98]⟩
def xd:aV:=⟨0,0,3,⟨#[]⟩,⟨#[99]⟩,xa.r,xa.s⟩
theorem OJ:eI [] 0 5 3 ⟨#[97]⟩=0:=by unfold eI;rw[if_pos zx,oU];rfl
theorem T9:eI [xa] 0 5 4 ⟨#[98]⟩=0:=by unfold eI;rw[if_pos zx,if_pos (show(iA [xa] 0 (cQ 5)).1=0 from mA OJ)];rfl
theorem Ta:iA [xa,xb] 0 16807=(0, -1):=by have:=Ou (mA T9);rw[oU]at this;exact this
theorem Tw:xa.r=lD 5 ta:=by show lD 5 (gb (vn [] 0 3 ⟨#[97]⟩))=_;rw[show gb (vn [] 0 3 ⟨#[97]⟩)=gb ⟨0,0,3,⟨#[]⟩,⟨#[97]⟩,0,0⟩ from rfl,NL]
theorem Tx:xa.s=pF 5 ta:=by show pF 5 (gb (vn [] 0 3 ⟨#[97]⟩))=_;rw[show gb (vn [] 0 3 ⟨#[97]⟩)=gb ⟨0,0,3,⟨#[]⟩,⟨#[97]⟩,0,0⟩ from rfl,NL]
theorem LK(r s:Int)(a:aV)(hv:mu 16807 tc r s=false):iA [⟨0,0,3,⟨#[]⟩,⟨#[99]⟩,r,s⟩,a] 0 16807=(17,0):=by
 obtain⟨x,b⟩:=x_ (⟨0,0,3,⟨#[]⟩,⟨#[99]⟩,r,s⟩:aV)
 rw[<-b];have c:iD [x,a] 0 x 0 16807=17:=by
  unfold iD;have d:mu 16807 (gb x) x.r x.s=false:=by rw[b];rw[show gb ⟨0,0,3,⟨#[]⟩,⟨#[99]⟩,r,s⟩=gb ⟨0,0,3,⟨#[]⟩,⟨#[99]⟩,0,0⟩ from rfl,RU];exact hv
  have f:gD (List.take 0 [x,a]) x 0=0:=by rw[b];rfl
  rw[d,f,if_pos rfl];split<;>rfl
 have:=pS (l:= [x,a]) (house:=0) (pub:=16807) (n:=1) (k:=0) (e:=x) rfl (by rw[c];decide);rw[c]at this;unfold iA;rw[if_pos (by decide),show [x,a].length=1+1 from rfl,this];rfl
theorem Tb:iA [xd,xb] 0 16807=(17,0):=LK xa.r xa.s xb (by rw[Tw,Tx];exact Ps)
end Go.Proofs.YtkmbmfengcdmoaaGreatDoor
namespace Go.Proofs.YtkmbmfengcdmoaaGreatDoor
open Go.RowKit Go.ay Go.Opn Go.ChangeShapes Go.WideShapes Go.Deep Go.OpenShut

instance:Inhabited aV:=⟨⟨0,0,0,⟨#[]⟩,⟨#[]⟩,0,0⟩⟩
end Go.Proofs.YtkmbmfengcdmoaaGreatDoor
namespace Go.Proofs.YtkmbmfengcdmoaaGreatDoor

theorem vg{l:List aV}{e:aV}{house:Int}(h:gD l e house=0):ql l.length e=true/\pP l.length e house=true/\rA l e=true:=by
 unfold gD at h;cases h1:ql l.length e with
 |false=>rw[h1]at h;simp at h
 |true=>
  cases h2:pP l.length e house with
  |false=>rw[h1,h2]at h;simp at h
  |true=>
   cases h3:rA l e with
   |false=>rw[h1,h2,h3]at h;simp at h
   |true=>exact⟨rfl,rfl,rfl⟩
theorem Ef{l:List aV}{k:Nat}{e:aV}{house pub:Int}(h:iD l k e house pub=0):gD (l.take k) e house=0/\e.prev=fF (l.take k)/\nM e pub=true:=by
 unfold iD at h;by_cases hm:gD (l.take k) e house=0
 ·rw[if_pos hm]at h;by_cases a:(e.prev.toList==(fF (l.take k)).toList)=true
  ·rw[if_pos a]at h;by_cases hv:mu pub (gb e) e.r e.s=true
   ·exact⟨hm,BQ (by simpa using a),hv⟩
   ·rw[if_neg hv]at h;cases h
  ·rw[if_neg a]at h;cases h
 ·rw[if_neg hm]at h;exact absurd h hm
theorem sj{l:List aV}{house pub:Int}(h:(iA l house pub).1=0)(j:Nat)(x:aV)(b:l[j]? =some x):x.house=house/\x.seq=(j:Int)/\nM x pub=true/\x.prev=fF (l.take j):=by obtain⟨_,c⟩:=(kC l house pub).1 h;obtain⟨hm,e,f⟩:=Ef (c j x b);obtain⟨_,a,_⟩:=vg hm;unfold pP at a;have d:=(jS.1 b).1;rw[jQ,Sf (by omega)]at a;simp only[ua,beq_iff_eq]at a;exact⟨a.1,a.2.1,f,e⟩
open Go.RowKit Go.ay Go.Opn
theorem MG(x y:aV)(W:World):(binOp .neq 42 (.agg (aK x).toArray) (.agg (aK y).toArray)).run Tryz.prog W= .ok (.bool (!qK x y)) W:=by
 obtain⟨b,c,d,h,g,e,f⟩:=x;obtain⟨o,n,m,j,i,l,k⟩:=y;show(binOp .neq 42 (.agg #[.int .i64 b, .int .i64 c, .int .i64 d, .string h, .string g, .int .i64 e, .int .i64 f]) (.agg #[.int .i64 o, .int .i64 n, .int .i64 m, .string j, .string i, .int .i64 l, .int .i64 k])).run Tryz.prog W=_;by_cases p:b=o
 ·subst p;by_cases q:c=n
  ·subst q;by_cases r:d=m
   ·subst r;by_cases s:h.toList=j.toList
    ·by_cases t:g.toList=i.toList
     ·by_cases u:e=l
      ·subst u;by_cases v:f=k
       ·subst v;have a:qK ⟨b,c,d,h,g,e,f⟩ ⟨b,c,d,j,i,e,f⟩=true:=by unfold qK;simp[s,t]
        rw[a];clear a;go_simp<;>rfl
       ·have a:qK ⟨b,c,d,h,g,e,f⟩ ⟨b,c,d,j,i,e,k⟩=false:=by unfold qK;simp[v]
        rw[a];clear a;go_simp<;>rfl
      ·have a:qK ⟨b,c,d,h,g,e,f⟩ ⟨b,c,d,j,i,l,k⟩=false:=by unfold qK;simp[u]
       rw[a];clear a;go_simp<;>rfl
     ·have a:qK ⟨b,c,d,h,g,e,f⟩ ⟨b,c,d,j,i,l,k⟩=false:=by unfold qK;simp[t]
      rw[a];clear a;go_simp<;>rfl
    ·have a:qK ⟨b,c,d,h,g,e,f⟩ ⟨b,c,d,j,i,l,k⟩=false:=by unfold qK;simp[s]
     rw[a];clear a;go_simp<;>rfl
   ·have a:qK ⟨b,c,d,h,g,e,f⟩ ⟨b,c,m,j,i,l,k⟩=false:=by unfold qK;simp[r]
    rw[a];clear a;go_simp<;>rfl
  ·have a:qK ⟨b,c,d,h,g,e,f⟩ ⟨b,n,m,j,i,l,k⟩=false:=by unfold qK;simp[q]
   rw[a];clear a;go_simp<;>rfl
 ·have a:qK ⟨b,c,d,h,g,e,f⟩ ⟨o,n,m,j,i,l,k⟩=false:=by unfold qK;simp[p]
  rw[a];clear a;go_simp<;>rfl
theorem sE{o:Oper}{ρ:Operand->Value}{w:World}{a:Operand}{b off:Nat}{x:aV}(e:o.op= .load 42 a)(d:ρ a= .pointer (some ⟨b,off,none⟩))(c:∀p u,(aK x)[p]? =some u->w.cell? ⟨b,off+p,none⟩=some u):
  (execOp ρ o).run Tryz.prog w= .ok (.value (.agg (aK x).toArray)) w:=by
 obtain⟨q,s,n,r,m,t,v⟩:=x;have f:=c 0 _ rfl;have g:=c 1 _ rfl;have h:=c 2 _ rfl;have i:=c 3 _ rfl;have j:=c 4 _ rfl;have k:=c 5 _ rfl;have l:=c 6 _ rfl;simp only[KO]at f g h i j k l;clear c;unfold execOp;simp only[e,d];go_simp<;>rfl
end Go.Proofs.YtkmbmfengcdmoaaGreatDoor
namespace Go.Proofs.YtkmbmfengcdmoaaGreatDoor
def rp(l:List UInt8):Nat:=l.foldl (λa d=>a*10+(d.toNat-48)) 0
theorem pY(l:List UInt8)(d:UInt8):rp (l++ [d])=rp l*10+(d.toNat-48):=by simp[rp]
theorem kE(d:Nat)(h:d<10):(UInt8.ofNat (48+d)).toNat=48+d:=by rw[UInt8.toNat_ofNat'];omega
theorem ga(m:Nat):∀u,u<m->rp (Lib.decDigits u)=u/\(∀b∈Lib.decDigits u,48<=b.toNat/\b.toNat<=57)/\Lib.decDigits u≠ []:=by
 induction m with
 |zero=>intro u f;omega
 |succ m ih=>
  intro u f;by_cases h:u<10
  ·rw[Lib.decDigits_one h];refine⟨?_, ?_,by simp⟩
   ·show 0*10+((UInt8.ofNat (48+u)).toNat-48)=u;rw[kE u h];omega
   ·intro b a;rw[vU]at a;subst a;rw[kE u h];omega
  ·rw[Lib.decDigits,dif_neg h];obtain⟨d,e,_⟩:=ih (u / 10) (by omega);have c:=kE (u % 10) (by omega);refine⟨?_, ?_,by simp⟩
   ·rw[pY,d,c];omega
   ·intro b a;rcases zT.1 a with a|a
    ·exact e b a
    ·rw[vU]at a;subst a;rw[c];omega
theorem yo{u v:Nat}(h:Lib.decDigits u=Lib.decDigits v):u=v:=by rw[<-(ga (u+1) u (by omega)).1, <-(ga (v+1) v (by omega)).1,h]
theorem jf(n:Int):(∃u:Nat,n=(u:Int))\/∃u:Nat,1<=u/\n= -(u:Int):=by
 by_cases h:0<=n
 ·exact .inl ⟨n.toNat,by omega⟩
 ·exact .inr ⟨(-n).toNat,by omega,by omega⟩
theorem yS{u v:Nat}(h:Lib.decDigits u=45::Lib.decDigits v):False:=by have:=(ga (u+1) u (by omega)).2.1 45 (by rw[h];simp);exact absurd this.1 (by decide)
theorem j5{m n:Int}(h:Lib.itoa m=Lib.itoa n):m=n:=by
 rcases jf m with⟨u,rfl⟩|⟨u,hu,rfl⟩<;>rcases jf n with⟨v,rfl⟩|⟨v,hv,rfl⟩
 ·rw[Lib.itoa_nonneg,Lib.itoa_nonneg]at h;rw[yo h]
 ·rw[Lib.itoa_nonneg,Lib.itoa_neg v hv]at h;exact(yS h).elim
 ·rw[Lib.itoa_neg u hu,Lib.itoa_nonneg]at h;exact(yS h.symm).elim
 ·rw[Lib.itoa_neg u hu,Lib.itoa_neg v hv]at h;injection h with _ h;rw[yo h]
theorem cN(n:Int):(32:UInt8)∉Lib.itoa n:=by
 intro h;rcases jf n with⟨u,rfl⟩|⟨u,a,rfl⟩
 ·rw[Lib.itoa_nonneg]at h;exact absurd ((ga (u+1) u (by omega)).2.1 32 h).1 (by decide)
 ·rw[Lib.itoa_neg u a]at h;rcases lC.1 h with h|h
  ·exact absurd h (by decide)
  ·exact absurd ((ga (u+1) u (by omega)).2.1 32 h).1 (by decide)
theorem iy{c:UInt8}:∀ {x y r s:List UInt8},c∉x->c∉y->x++c::r=y++c::s->x=y/\r=s
 | [],[],r,s,_,_,h=>by simpa using h
 | [],b::y,r,s,_,hy,h=>by
  simp at h;exact absurd (by rw[h.1];simp) hy
 |a::x,[],r,s,hx,_,h=>by
  simp at h;exact absurd (by rw[<-h.1];simp) hx
 |a::x,b::y,r,s,hx,hy,h=>by
  simp at h;obtain⟨d,e⟩:=iy (x:=x) (y:=y) (λhm=>hx (by simp[hm])) (λhm=>hy (by simp[hm])) h.2;exact⟨by rw[h.1,d],e⟩
theorem pX(n:Int):(dec n).data.toList=Lib.itoa n:=rfl
theorem BS(e:aV):Kq e= [101,110,116,114,121]++32::(Lib.itoa e.house++32::(Lib.itoa e.seq++32::(Lib.itoa e.day++32::(Lib.itoa (e.prev.size:Int)++32::(e.prev.data.toList++e.body.data.toList))))):=by unfold Kq Gx Gx Gx Gx Gx;simp only[pX,oL,List.append_assoc,xC,xK]
theorem MU{a b:aV}(h:gb a=gb b):a.house=b.house/\a.seq=b.seq/\a.day=b.day/\a.prev=b.prev/\a.body=b.body:=by
 have f:Kq a=Kq b:=by have:=congrArg (λt:ByteArray=>t.data.toList) h;simpa[gb]using this
 rw[BS,BS]at f;have c:=List.append_cancel_left f;injection c with _ c;obtain⟨g,l⟩:=iy (cN _) (cN _) c;obtain⟨i,m⟩:=iy (cN _) (cN _) l;obtain⟨j,n⟩:=iy (cN _) (cN _) m;obtain⟨e,o⟩:=iy (cN _) (cN _) n;have e:=j5 e;have d:a.prev.data.toList.length=b.prev.data.toList.length:=by
  have k:a.prev.size=b.prev.size:=by omega
  simpa using k
 obtain⟨p,q⟩:=List.append_inj o d;exact⟨j5 g,j5 i,j5 j,wh p,wh q⟩
def bare(e:aV):aV:=⟨e.house,e.seq,e.day,e.prev,e.body,0,0⟩
open Go.RowKit Go.ay Go.Opn Go.ChangeShapes Go.WideShapes Go.Deep Go.OpenShut
end Go.Proofs.YtkmbmfengcdmoaaGreatDoor
namespace Go.Cln
open Go Go.Shelf Go.RowKit Go.Lib Go.Opn Go.Proofs
variable {P:Program} {ρ:Ren}
set_option maxHeartbeats 1000000 in
theorem Al(L:SlLaysE0.n41 P ρ)(g:TypeInfo)(z:Value)(size bytes:Nat)(y:P.info? (ρ.t 23)=some g)(o:g.zero=some z)(p:g.size=size)(q:g.bytes=bytes)(r:z.cells.size=size)(m:0<size)
  (H:∀w,(Go.sizeOf (ρ.t 23)).run P w= .ok size w) (a:Addr) (c:Nat) (w:World):
  Calls P (ρ.f 41) #[.slice (some a) 0 c] w λe w'=> ∃i,e= .returned i/\w'.ownsRow w.heap.size (ρ.t 23) size i 0 []/\Below w.heap.size w w':=by
 have mixed:=L.mixed;have J:=L.t4;have I:=L.a4;have N:=L.z4;have K:=L.v4;have h:=L.t22;have x:=L.a22;have G:=L.z22;have F:=L.v22;have D:∀(w:World) (a:Option Addr) (n c s l:Nat),(binOp .eql (ρ.t 22) (.slice a n c) (.slice none s l)).run P w= .ok (.bool a.isNone) w:=λw a n c s l=>Lib.run_eql_slice_nil w _ _ a n c s l L.t22
 have E:∀w,Sem.run P (underlying (ρ.t 22)) w= .ok (TypeDesc.slice (ρ.t 23)) w:=run_underlying h;obtain⟨_,_,v⟩:=L.f41;go_enter v,SlBodyN.n41_ntmps ρ;go_wp2_with (at_builtin;refine wpList_append_own _ rfl _ _ (ρ.t 22) rfl w.heap.size (ρ.t 23) g z size bytes h y o p q r m _ _ _ rfl (World.ownsRow_made w #[] 0 (aL _) (gu _) (by simp)) a 0 c [] rfl ?qc1 ?qc2 ?qc3 ?qc4 ?qc5 ?qc6 ?_)
 case qc1=>simp
 case qc2=>intro j u A;simp at A
 case qc3=>intro u C;cases C
 case qc4=>exact gu _
 case qc5=>simp
 case qc6=>simp
 intro i M d b _
 go_wp2
 go_ret;exact⟨i,rfl,by simpa using d,((Below.refl _ w).alloc (aL _) _).grown b (by simp) (by intro k B;simp[Value.ownBlock]at B;omega)⟩
theorem Eh(L:SlLaysE0.n41 P ρ){α:Type}{ec:α->List Value}(i:TypeInfo)(z:Value)(size bytes:Nat)(M:P.info? (ρ.t 23)=some i)(q:i.zero=some z)(s:i.size=size)(B:i.bytes=bytes)(C:z.cells.size=size)(p:0<size)
  (D:∀w,(Go.sizeOf (ρ.t 23)).run P w= .ok size w) (m:∀x,(ec x).length=size) (E:∀x,∀v∈ec x,v.oneCell'=true) (A:Option Addr) (c:Nat) (l:List α) (w:World) (G:SL w size ec A l) (S:l.length<=maxLen) (k:l.length*bytes<=140737488355328):
  Calls P (ρ.f 41) #[.slice A l.length c] w λe w'=> ∃J K,e= .returned (.slice J l.length K)/\w'.ownsRow w.heap.size (ρ.t 23) size (.slice J l.length K) l.length (l.flatMap ec)/\Below w.heap.size w w':=by
 have d:∀ {w':World} {v:Value} {n:Nat} {xs:List Value},w'.ownsRow w.heap.size (ρ.t 23) size v n xs->∃A c,v= .slice A n c:=λh=>by
  rcases h.2 with⟨rfl,rfl⟩|⟨g,N,O,rfl,_⟩
  ·exact⟨_,_,rfl⟩
  ·exact⟨_,_,rfl⟩
 cases A with
 |none=>
  have H:l= []:=by
   cases l with
   |nil=>rfl
   |cons x r=>obtain⟨_,_,E,_⟩:=G.cells (by simp);cases E
  subst H;refine(AnyE.slices_Clone_nil L 0 c w).mono ?_;rintro e w' ⟨rfl,rfl⟩;exact⟨none,0,rfl,World.ownsRow_nil _ _ _ _,Below.refl _ _⟩
 |some a=>
  cases l with
  |nil=>refine(Al L i z size bytes M q s B C p D a c w).mono ?_;rintro e w' ⟨V,rfl,o,F⟩;obtain⟨A,c,rfl⟩:=d o;exact⟨A,c,rfl,o,F⟩
  |cons x r=>
   obtain⟨b,I,Q,_⟩:=G.cells (by simp);cases Q
   refine(AnyE.slices_Clone L i z size bytes M q s B C p D b I (x::r).length c ((x::r).flatMap ec) w (Apl.jZ m _) S k (λj u R=> ?_) (λu T=> ?_)).mono ?_
   ·have:=Apl.xg m G j u R
    rwa[Addr.add_lit]at this
   ·obtain⟨y,_,U⟩:=PT.1 T;exact E y u U
   ·rintro e w' ⟨V,rfl,o,_,F⟩;obtain⟨A,c,rfl⟩:=d o;exact⟨A,c,rfl,o,F⟩
end Go.Cln
