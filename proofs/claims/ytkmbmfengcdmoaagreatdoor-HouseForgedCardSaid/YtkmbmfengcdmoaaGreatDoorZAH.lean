/- slices.Clone of a slice that reads as a list, whatever its elements are. No condition. -/
import Derived.Test.YtkmbmfengcdmoaaGreatDoorZAE
import Derived.Test.YtkmbmfengcdmoaaGreatDoorZAG
import Derived.Lib.SmallJoins
import Derived.Shelf.SlicesE.Clone
import Derived.Test.YtkmbmfengcdmoaaGreatDoorZAA
set_option linter.all false
set_option maxRecDepth 100000
namespace Go.Proofs.YtkmbmfengcdmoaaGreatDoor
open Go.RowKit Go.W32 Go.ay Go.Sg

theorem xY(a b:Nat):((a*b % gp:Nat):Int)=(a:Int)*(b:Int) % 2147483647:=by rw[Int.natCast_emod,Int.natCast_mul];rfl
theorem FM{b n:Int}(h1:1<=b)(h2:b<=2147483646)(h3:0<=n):∃q:Nat,1<=q/\q<gp/\dS b n=(q:Int)/\q=pw b.toNat n.toNat:=
 ⟨pw b.toNat n.toNat,O9 _ _ (by omega) (by unfold gp;omega),tw _ _,iw h1 h2 h3,rfl⟩
theorem vy{b n:Int}(h1:1<=b)(h2:b<=2147483646)(h3:0<=n):1<=dS b n:=by obtain⟨q,h,_,e,_⟩:=FM h1 h2 h3;omega
theorem rP{x:Int}(h:fT x):cQ x=dS 7 x:=by unfold cQ;rw[if_pos h]
theorem zf{x:Int}(h:fT x):1<=cQ x:=by rw[rP h];exact vy (by decide) (by decide) (by have:=h.1;omega)
theorem DF(x:Int)(t:ByteArray):1<=lD x t:=vy (by decide) (by decide) (by have:=qs x t;omega)
theorem J3(x:Int)(t:ByteArray):lD x t<=2147483646:=(jH _ _).2
theorem qt(x:Int)(t:ByteArray):0<=pF x t/\pF x t<=2147483645:=by unfold pF;omega
theorem BU{x:Int}(h:fT x)(t:ByteArray):tS (cQ x) (lD x t) (pF x t):=
 ⟨DF x t,J3 x t,(qt x t).1,(qt x t).2,zf h,(nG x).2⟩
theorem sign_eq{x:Int}(h:fT x)(t:ByteArray):dS 7 (pF x t)=lD x t*dS (cQ x) (iC (lD x t) (cQ x) t) % 2147483647:=by
 obtain⟨c,hc⟩:∃c:Nat,iC (lD x t) (cQ x) t=c:=⟨_,(Int.toNat_of_nonneg (ny _ _ _).1).symm⟩
 obtain⟨k,hk⟩:∃k:Nat,zD x t=k:=⟨(zD x t).toNat,by have:=qs x t;omega⟩
 obtain⟨z,hz⟩:∃z:Nat,x=z:=⟨x.toNat,by have:=h.1;omega⟩
 have hS:pF x t=((k+c*z) % 2147483646:Nat):=by unfold pF;rw[hc,hk,hz,Int.natCast_emod,Int.natCast_add,Int.natCast_mul];rfl
 have hR:lD x t=(pw 7 k:Nat):=by unfold lD;rw[hk,iw (by decide) (by decide) (by omega)];rfl
 have hV:cQ x=(pw 7 z:Nat):=by rw[rP h,hz,iw (by decide) (by decide) (by omega)];rfl
 have hV1:=zf h;have hV2:=(nG x).2;rw[hc,hS,iw (by decide) (by decide) (by omega),iw hV1 hV2 (by omega),hR,hV];simp only[tZ];rw[show(7:Int).toNat=7 from rfl,O7 7 _ (by decide) (by decide),tz,nH,B8 z c,xY]
theorem Kt{x:Int}(h:fT x)(t:ByteArray):mu (cQ x) t (lD x t) (pF x t)=true:=by unfold mu;rw[dt (BU h t),sign_eq h t];simp
theorem nz(n:Nat):dec (n:Int)=⟨(Lib.decDigits n).toArray⟩:=by unfold dec;rw[Lib.itoa_nonneg]
def Oz(d:Nat):ByteArray:=⟨#[UInt8.ofNat (48+d)]⟩
theorem wh{a b:ByteArray}(h:a.data.toList=b.data.toList):a=b:=by cases a;cases b;congr 1;exact M5 h
theorem Ec(a b:ByteArray):(a++b).data.toList=a.data.toList++b.data.toList:=by simp
theorem bI(n:Nat)(h:9<n):dec (n:Int)=dec ((n / 10:Nat):Int)++Oz (n % 10):=by rw[nz,nz];apply wh;rw[Ec,Lib.decDigits,dif_neg (by omega)];simp[Oz]
theorem du(n:Nat)(h:n<=9):dec (n:Int)=Oz n:=by rw[nz,Lib.decDigits_one (by omega)];rfl
end Go.Proofs.YtkmbmfengcdmoaaGreatDoor
namespace Go.Proofs.YtkmbmfengcdmoaaGreatDoor
open Go.Sg Go.W32

theorem KV(l:List aV)(house secret day:Int)(body:ByteArray):gb (dn l house secret day body)=gb (vn l house day body):=rfl
theorem Jg(l:List aV)(house secret day:Int)(body:ByteArray):gD l (dn l house secret day body) house=gD l (Fq l house day body) house:=rfl
theorem Cj{l:List aV}{house secret day:Int}{body:ByteArray}(h:eI l house secret day body=0):fT secret/\(iA l house (cQ secret)).1=0/\gD l (Fq l house day body) house=0:=by
 unfold eI at h;split at h
 ·rename_i hs;split at h
  ·rename_i hc;exact⟨hs,hc,h⟩
  ·rename_i hc;exact absurd h hc
 ·cases h
theorem zE{l:List aV}{house secret day:Int}{body:ByteArray}(hs:fT secret):nM (dn l house secret day body) (cQ secret)=true:=by unfold nM;rw[KV];exact Kt hs _
theorem mA{l:List aV}{house secret day:Int}{body:ByteArray}(h:eI l house secret day body=0):(iA (l++ [dn l house secret day body]) house (cQ secret)).1=0:=by
 obtain⟨hs,hc,hm⟩:=Cj h;obtain⟨hk,ha⟩:=(kC l house _).1 hc;refine(kC _ _ _).2 ⟨hk,λi e he=> ?_⟩;by_cases hi:i<l.length
 ·rw[xL hi]at he;rw[<-ha i e he];unfold iD;rw[P7 (Nat.le_of_lt hi)]
 ·have hil:i=l.length:=by have:=(jS.1 he).1;simp at this;omega
  subst hil;simp at he;subst he;unfold iD;rw[List.take_left,Jg,hm,if_pos rfl];have e1:(dn l house secret day body).prev=fF l:=rfl;rw[e1];have e2:mu (cQ secret) (gb (dn l house secret day body)) (dn l house secret day body).r (dn l house secret day body).s=true:=zE hs;rw[e2];simp

theorem gZ(n:Nat)(h:n<2 ^ 32):dS 7 (n:Int)=(AD 32 7 n 1:Nat):=by rw[iw (by decide) (by decide) (by omega),tZ,show(7:Int).toNat=7 from rfl,gG 7 n h]
theorem Tj:dS 7 5=16807:=(gZ 5 (by decide)).trans (by decide+kernel)
theorem zx:fT 5:=by decide
theorem oU:cQ 5=16807:=(rP zx).trans Tj
def ta:ByteArray:=⟨#[101,110,116,114,121,32,48,32,48,32,51,32,48,32,97]⟩
def tc:ByteArray:=⟨#[101,110,116,114,121,32,48,32,48,32,51,32,48,32,99]⟩
theorem Em:dec 0=⟨#[48]⟩:=(du 0 (by decide)).trans rfl
theorem Oy:dec 3=⟨#[51]⟩:=(du 3 (by decide)).trans rfl
theorem Ls:dec 5=⟨#[53]⟩:=(du 5 (by decide)).trans rfl
theorem Ia:dec 16807=⟨#[49,54,56,48,55]⟩:=by have h1:=bI 16807 (by decide);have h2:=bI 1680 (by decide);have h3:=bI 168 (by decide);have h4:=bI 16 (by decide);have h5:=du 1 (by decide);simp only[Nat.reduceDiv,Nat.reduceMod]at h1 h2 h3 h4;refine h1.trans ?_;rw[h2,h3,h4,h5];decide+kernel
theorem Qx:dec 1489275650=⟨#[49,52,56,57,50,55,53,54,53,48]⟩:=by have h1:=bI 1489275650 (by decide);have h2:=bI 148927565 (by decide);have h3:=bI 14892756 (by decide);have h4:=bI 1489275 (by decide);have h5:=bI 148927 (by decide);have h6:=bI 14892 (by decide);have h7:=bI 1489 (by decide);have h8:=bI 148 (by decide);have h9:=bI 14 (by decide);have h10:=du 1 (by decide);simp only[Nat.reduceDiv,Nat.reduceMod]at h1 h2 h3 h4 h5 h6 h7 h8 h9;refine h1.trans ?_;rw[h2,h3,h4,h5,h6,h7,h8,h9,h10];decide+kernel
theorem NL:gb ⟨0,0,3,⟨#[]⟩,⟨#[97]⟩,0,0⟩=ta:=by
 have:Kq ⟨0,0,3,⟨#[]⟩,⟨#[97]⟩,0,0⟩= [101,110,116,114,121]++ [32]++(dec 0).data.toList++ [32]++(dec 0).data.toList++ [32]++(dec 3).data.toList++ [32]++(dec 0).data.toList++ [32]++ []++ [97]:=by rfl
 unfold gb;rw[this,Em,Oy];rfl
theorem RU:gb ⟨0,0,3,⟨#[]⟩,⟨#[99]⟩,0,0⟩=tc:=by
 have:Kq ⟨0,0,3,⟨#[]⟩,⟨#[99]⟩,0,0⟩= [101,110,116,114,121]++ [32]++(dec 0).data.toList++ [32]++(dec 0).data.toList++ [32]++(dec 3).data.toList++ [32]++(dec 0).data.toList++ [32]++ []++ [99]:=by rfl
 unfold gb;rw[this,Em,Oy];rfl
theorem TK:zD 5 ta=406066904:=by unfold zD Gj;rw[Ls];kernel_rfl
theorem TR:lD 5 ta=1489275650:=by unfold lD;rw[TK];exact(gZ 406066904 (by decide)).trans (by decide+kernel)
theorem T5:iC 1489275650 16807 ta=84319894:=by unfold iC GC;rw[Qx,Ia];kernel_rfl
theorem T6:iC 1489275650 16807 tc=706663265:=by unfold iC GC;rw[Qx,Ia];kernel_rfl
theorem Ue:pF 5 ta=827666374:=by unfold pF;rw[oU,TR,TK,T5];rfl
theorem TQ(n:Nat)(h:n<2 ^ 32):dS 16807 (n:Int)=(AD 32 16807 n 1:Nat):=by rw[iw (by decide) (by decide) (by omega),tZ,show(16807:Int).toNat=16807 from rfl,gG 16807 n h]
theorem Ps:mu 16807 tc (lD 5 ta) (pF 5 ta)=false:=by rw[TR,Ue];unfold mu;rw[T6];have e1:dS 7 827666374=1168526879:=(gZ 827666374 (by decide)).trans (by decide+kernel);have e2:dS 16807 706663265=1655303818:=(TQ 706663265 (by decide)).trans (by decide+kernel);rw[e1,e2];decide
end Go.Proofs.YtkmbmfengcdmoaaGreatDoor
namespace Go.Proofs.YtkmbmfengcdmoaaGreatDoor
open Go.RowKit Go.ay Go.Opn Go.Apl Go.Sg

theorem ky(l:List aV)(house secret day:Int)(body:ByteArray)(hl:l.length<=1000000)
  (hh0: -9223372036854775808<=house) (hh1:house<=9223372036854775807) (hd0: -9223372036854775808<=day) (hd1:day<=9223372036854775807) (hb:body.size<=1000000000):(dn l house secret day body).Ok/\(dn l house secret day body).prev.size<=1000000000/\(dn l house secret day body).body.size<=1000000000:=by
 have hps:=gW l;obtain⟨t,et⟩:=x_ (gb (vn l house day body))
 have hr1:=DF secret t;have hr2:=J3 secret t;have hs:=qt secret t;rw[et]at hr1 hr2 hs;refine⟨⟨hh0,hh1, ?_, ?_,hd0,hd1, ?_, ?_, ?_, ?_, ?_, ?_⟩, ?_,hb⟩
 ·show(-9223372036854775808:Int)<=(l.length:Int);omega
 ·show(l.length:Int)<=9223372036854775807;omega
 ·show(-9223372036854775808:Int)<=lD secret _;omega
 ·show lD secret _<=(9223372036854775807:Int);omega
 ·show(-9223372036854775808:Int)<=pF secret _;omega
 ·show pF secret _<=(9223372036854775807:Int);omega
 ·show(fF l).size<=_;omega
 ·show body.size<=_;omega
 ·show(fF l).size<=_;omega
def xa:aV:=dn [] 0 5 3 ⟨#[97]⟩
def xb:aV:=dn [xa] 0 5 4 ⟨#[98]⟩
def xd:aV:=⟨0,0,3,⟨#[]⟩,⟨#[99]⟩,xa.r,xa.s⟩
theorem OJ:eI [] 0 5 3 ⟨#[97]⟩=0:=by unfold eI;rw[if_pos zx,oU];rfl
theorem T9:eI [xa] 0 5 4 ⟨#[98]⟩=0:=by unfold eI;rw[if_pos zx,if_pos (show(iA [xa] 0 (cQ 5)).1=0 from mA OJ)];rfl
theorem Ta:iA [xa,xb] 0 16807=(0, -1):=by have:=Ou (mA T9);rw[oU]at this;exact this
theorem Tw:xa.r=lD 5 ta:=by show lD 5 (gb (vn [] 0 3 ⟨#[97]⟩))=_;rw[show gb (vn [] 0 3 ⟨#[97]⟩)=gb ⟨0,0,3,⟨#[]⟩,⟨#[97]⟩,0,0⟩ from rfl,NL]
theorem Tx:xa.s=pF 5 ta:=by show pF 5 (gb (vn [] 0 3 ⟨#[97]⟩))=_;rw[show gb (vn [] 0 3 ⟨#[97]⟩)=gb ⟨0,0,3,⟨#[]⟩,⟨#[97]⟩,0,0⟩ from rfl,NL]
theorem LK(r s:Int)(yb:aV)(hv:mu 16807 tc r s=false):iA [⟨0,0,3,⟨#[]⟩,⟨#[99]⟩,r,s⟩,yb] 0 16807=(17,0):=by
 obtain⟨x,ex⟩:=x_ (⟨0,0,3,⟨#[]⟩,⟨#[99]⟩,r,s⟩:aV)
 rw[<-ex];have h1:iD [x,yb] 0 x 0 16807=17:=by
  unfold iD;have e1:mu 16807 (gb x) x.r x.s=false:=by rw[ex];rw[show gb ⟨0,0,3,⟨#[]⟩,⟨#[99]⟩,r,s⟩=gb ⟨0,0,3,⟨#[]⟩,⟨#[99]⟩,0,0⟩ from rfl,RU];exact hv
  have e2:gD (List.take 0 [x,yb]) x 0=0:=by rw[ex];rfl
  rw[e1,e2,if_pos rfl];split<;>rfl
 have:=pS (l:= [x,yb]) (house:=0) (pub:=16807) (n:=1) (k:=0) (e:=x) rfl (by rw[h1];decide);rw[h1]at this;unfold iA;rw[if_pos (by decide),show [x,yb].length=1+1 from rfl,this];rfl
theorem Tb:iA [xd,xb] 0 16807=(17,0):=LK xa.r xa.s xb (by rw[Tw,Tx];exact Ps)
end Go.Proofs.YtkmbmfengcdmoaaGreatDoor
namespace Go.Proofs.YtkmbmfengcdmoaaGreatDoor
open Go.RowKit Go.ay Go.Opn Go.ChangeShapes Go.WideShapes Go.Deep Go.OpenShut

instance:Inhabited aV:=⟨⟨0,0,0,⟨#[]⟩,⟨#[]⟩,0,0⟩⟩
theorem Ai:Tryz.prog.cellsOf 42=7:=by kernel_rfl
theorem oB{H:Type}{enc:TypeId×Value->H}{w:World}{base:Nat}{spare:Nat->Bool}{held:Bool}{fuel:Nat}{cs:List Value}{x:DataW H×List MemPlace}(h:DataW.trod enc Tryz.prog w base spare held fuel 42 cs=some x):
  ∃a:aV,a.Ok/\∀(p:Nat) u,(aK a)[p]? =some u->cs[p]? =some u:=by
 obtain⟨k,hk,wk⟩:=aG (f:=3) (p:=0) Tryz.underlying3 (by kernel_rfl) h;obtain⟨s,hs,ws⟩:=aG (f:=3) (p:=1) Tryz.underlying3 (by kernel_rfl) h;obtain⟨b,hb,wb⟩:=aG (f:=3) (p:=2) Tryz.underlying3 (by kernel_rfl) h;obtain⟨t,ht,wt⟩:=gn (f:=3) (p:=3) Tryz.underlying9 (by kernel_rfl) h;obtain⟨t',ht',wt'⟩:=gn (f:=3) (p:=4) Tryz.underlying9 (by kernel_rfl) h;obtain⟨f,hf,wf⟩:=aG (f:=3) (p:=5) Tryz.underlying3 (by kernel_rfl) h;obtain⟨g,hg,wg⟩:=aG (f:=3) (p:=6) Tryz.underlying3 (by kernel_rfl) h;obtain⟨k0,k1⟩:=bounds_i64 wk;obtain⟨s0,s1⟩:=bounds_i64 ws;obtain⟨b0,b1⟩:=bounds_i64 wb;obtain⟨f0,f1⟩:=bounds_i64 wf;obtain⟨g0,g1⟩:=bounds_i64 wg;unfold maxLen at wt wt';refine⟨⟨k,s,b,t,t',f,g⟩,⟨k0,k1,s0,s1,b0,b1,f0,f1,g0,g1,wt,wt'⟩,λp u hu=> ?_⟩
 match p,hu with
 |0,hu=>cases hu;exact hk
 |1,hu=>cases hu;exact hs
 |2,hu=>cases hu;exact hb
 |3,hu=>cases hu;exact ht
 |4,hu=>cases hu;exact ht'
 |5,hu=>cases hu;exact hf
 |6,hu=>cases hu;exact hg
 |p+7,hu=>simp[aK]at hu
end Go.Proofs.YtkmbmfengcdmoaaGreatDoor
namespace Go.Proofs.YtkmbmfengcdmoaaGreatDoor

theorem vg{l:List aV}{e:aV}{house:Int}(h:gD l e house=0):ql l.length e=true/\pP l.length e house=true/\rA l e=true:=by
 unfold gD at h;cases h1:ql l.length e with
 |false=>rw[h1]at h;simp at h
 |true=>
  cases h2:pP l.length e house with
  |false=>rw[h1,h2]at h;simp at h
  |true=>
   cases h3:rA l e with
   |false=>rw[h1,h2,h3]at h;simp at h
   |true=>exact⟨rfl,rfl,rfl⟩
theorem Ef{l:List aV}{k:Nat}{e:aV}{house pub:Int}(h:iD l k e house pub=0):gD (l.take k) e house=0/\e.prev=fF (l.take k)/\nM e pub=true:=by
 unfold iD at h;by_cases hm:gD (l.take k) e house=0
 ·rw[if_pos hm]at h;by_cases hp:(e.prev.toList==(fF (l.take k)).toList)=true
  ·rw[if_pos hp]at h;by_cases hv:mu pub (gb e) e.r e.s=true
   ·exact⟨hm,BQ (by simpa using hp),hv⟩
   ·rw[if_neg hv]at h;cases h
  ·rw[if_neg hp]at h;cases h
 ·rw[if_neg hm]at h;exact absurd h hm
theorem sj{l:List aV}{house pub:Int}(h:(iA l house pub).1=0)(j:Nat)(x:aV)(hx:l[j]? =some x):x.house=house/\x.seq=(j:Int)/\nM x pub=true/\x.prev=fF (l.take j):=by obtain⟨_,ha⟩:=(kC l house pub).1 h;obtain⟨hm,hp,hs⟩:=Ef (ha j x hx);obtain⟨_,hr,_⟩:=vg hm;unfold pP at hr;have hlt:=(jS.1 hx).1;rw[jQ,Sf (by omega)]at hr;simp only[ua,beq_iff_eq]at hr;exact⟨hr.1,hr.2.1,hs,hp⟩
open Go.RowKit Go.ay Go.Opn
theorem MG(x y:aV)(W:World):(binOp .neq 42 (.agg (aK x).toArray) (.agg (aK y).toArray)).run Tryz.prog W= .ok (.bool (!qK x y)) W:=by
 obtain⟨ah,aq,ad,ap,ab,ar,az⟩:=x;obtain⟨bh,bq,bd,bp,bb,br,bz⟩:=y;show(binOp .neq 42 (.agg #[.int .i64 ah, .int .i64 aq, .int .i64 ad, .string ap, .string ab, .int .i64 ar, .int .i64 az]) (.agg #[.int .i64 bh, .int .i64 bq, .int .i64 bd, .string bp, .string bb, .int .i64 br, .int .i64 bz])).run Tryz.prog W=_;by_cases h1:ah=bh
 ·subst h1;by_cases h2:aq=bq
  ·subst h2;by_cases h3:ad=bd
   ·subst h3;by_cases h4:ap.toList=bp.toList
    ·by_cases h5:ab.toList=bb.toList
     ·by_cases h6:ar=br
      ·subst h6;by_cases h7:az=bz
       ·subst h7;have hq:qK ⟨ah,aq,ad,ap,ab,ar,az⟩ ⟨ah,aq,ad,bp,bb,ar,az⟩=true:=by unfold qK;simp[h4,h5]
        rw[hq];clear hq;go_simp<;>rfl
       ·have hq:qK ⟨ah,aq,ad,ap,ab,ar,az⟩ ⟨ah,aq,ad,bp,bb,ar,bz⟩=false:=by unfold qK;simp[h7]
        rw[hq];clear hq;go_simp<;>rfl
      ·have hq:qK ⟨ah,aq,ad,ap,ab,ar,az⟩ ⟨ah,aq,ad,bp,bb,br,bz⟩=false:=by unfold qK;simp[h6]
       rw[hq];clear hq;go_simp<;>rfl
     ·have hq:qK ⟨ah,aq,ad,ap,ab,ar,az⟩ ⟨ah,aq,ad,bp,bb,br,bz⟩=false:=by unfold qK;simp[h5]
      rw[hq];clear hq;go_simp<;>rfl
    ·have hq:qK ⟨ah,aq,ad,ap,ab,ar,az⟩ ⟨ah,aq,ad,bp,bb,br,bz⟩=false:=by unfold qK;simp[h4]
     rw[hq];clear hq;go_simp<;>rfl
   ·have hq:qK ⟨ah,aq,ad,ap,ab,ar,az⟩ ⟨ah,aq,bd,bp,bb,br,bz⟩=false:=by unfold qK;simp[h3]
    rw[hq];clear hq;go_simp<;>rfl
  ·have hq:qK ⟨ah,aq,ad,ap,ab,ar,az⟩ ⟨ah,bq,bd,bp,bb,br,bz⟩=false:=by unfold qK;simp[h2]
   rw[hq];clear hq;go_simp<;>rfl
 ·have hq:qK ⟨ah,aq,ad,ap,ab,ar,az⟩ ⟨bh,bq,bd,bp,bb,br,bz⟩=false:=by unfold qK;simp[h1]
  rw[hq];clear hq;go_simp<;>rfl
theorem yx{o:Oper}{ρ:Operand->Value}{w:World}{a b:Operand}{x y:aV}(ho:o.op= .binOp .neq 42 a b 42)(ha:ρ a= .agg (aK x).toArray)(hb:ρ b= .agg (aK y).toArray):
  (execOp ρ o).run Tryz.prog w= .ok (.value (.bool (!qK x y))) w:=by
 have hg:(eqGuard .neq 42 a b (.agg (aK x).toArray) (.agg (aK y).toArray)).run Tryz.prog w= .ok () w:=by unfold eqGuard;simp
 unfold execOp;simp only[ho,ha,hb,Sem.run_bind,hg,Result.andThen_ok,MG,Sem.run_pure]
theorem sE{o:Oper}{ρ:Operand->Value}{w:World}{a:Operand}{b off:Nat}{x:aV}(ho:o.op= .load 42 a)(ha:ρ a= .pointer (some ⟨b,off,none⟩))(hc:∀p u,(aK x)[p]? =some u->w.cell? ⟨b,off+p,none⟩=some u):
  (execOp ρ o).run Tryz.prog w= .ok (.value (.agg (aK x).toArray)) w:=by
 obtain⟨ah,aq,ad,ap,ab,ar,az⟩:=x;have p0:=hc 0 _ rfl;have p1:=hc 1 _ rfl;have p2:=hc 2 _ rfl;have p3:=hc 3 _ rfl;have p4:=hc 4 _ rfl;have p5:=hc 5 _ rfl;have p6:=hc 6 _ rfl;simp only[KO]at p0 p1 p2 p3 p4 p5 p6;clear hc;unfold execOp;simp only[ho,ha];go_simp<;>rfl
def mj:List aV->List aV->Bool
 | [],[]=>true
 |x::a,y::b=>qK x y&&mj a b
 |_,_=>false
theorem ki:∀a b:List aV,mj a b=true↔a=b
 | [],[]=>by simp[mj]
 |x::a,y::b=>by
  unfold mj;rw[ua,rI,ki a b];constructor
  ·rintro⟨rfl,rfl⟩;rfl
  ·intro h;cases h;exact⟨rfl,rfl⟩
 | [],_::_=>by simp[mj]
 |_::_,[]=>by simp[mj]
theorem zr{a b:List aV}(h:a≠b):mj a b=false:=by
 cases hs:mj a b
 ·rfl
 ·exact absurd ((ki a b).1 hs) h
def SG(w:World)(a b:List aV)(i:Value)(wr:World):Prop:=∃k:Nat,k<=a.length/\i= .int .i64 k/\a.take k=b.take k/\Below w.heap.size w wr
set_option maxHeartbeats 4000000 in
theorem zu(A A':Option Addr)(c c':Nat)(a b:List aV)(w:World)(ha:SL w 7 aK A a)(hb:SL w 7 aK A' b)(la:a.length<=9223372036854775807):
  Calls Tryz.prog 17 #[.slice A a.length c, .slice A' b.length c'] w λe w'=>e= .returned (.bool (mj a b))/\Below w.heap.size w w':=by
 by_cases hl:a.length=b.length
 ·have hli:(a.length:Int)=(b.length:Int):=by omega
  have HA:=h_ ha;have HB:=h_ hb;have HST:Hid (SG w a b (.int .i64 0) w):=⟨0,gu _,rfl,by simp,Below.refl _ _⟩
  obtain⟨n,hn⟩:=x_ b.length
  rw[<-hn]at hl⊢;have HL:=h_ hl;have HN:=h_ hn;rw[hl];have hn1:n<=9223372036854775807:=by omega
  obtain⟨R,eR⟩:=x_ (mj a b)
  rw[<-eR];have ER:=h_ eR;clear ha hb hl la hli hn eR;go_enter Tryz.func17,Tryz.ntmps17;go_wp2_with fail
  go_loopw [5] (λi wr=>SG w a b i wr) (λi _=>n- (intOf i).toNat)
  case atStart=>exact HST.out
  case round=>
   clear HST;obtain⟨k,hk,rfl,htk,hbr⟩:=hrel;by_cases hlt:k<n
   ·obtain⟨x,hx⟩:∃x,a[k]? =some x:=⟨_,eH (by have:=HL.out;omega)⟩
    obtain⟨y,hy⟩:∃y,b[k]? =some y:=⟨_,eH (by have:=HN.out;omega)⟩
    obtain⟨bb,off,rfl,_⟩:=HA.out.at_ hx;obtain⟨b2,o2,rfl,_⟩:=HB.out.at_ hy;have CX:Hid (∀w',Below w.heap.size w w'->∀p u,(aK x)[p]? =some u->w'.cell? ⟨bb,off+k*7+p,none⟩=some u):=λw' hb p u hu=>by
     obtain⟨_,_,e1,h1⟩:=(HA.out.below hb (aL _)).at_ hx;cases e1
     rw[Nat.add_assoc];exact h1 p u hu
    have CY:Hid (∀w',Below w.heap.size w w'->∀p u,(aK y)[p]? =some u->w'.cell? ⟨b2,o2+k*7+p,none⟩=some u):=λw' hb p u hu=>by
     obtain⟨_,_,e1,h1⟩:=(HB.out.below hb (aL _)).at_ hy;cases e1
     rw[Nat.add_assoc];exact h1 p u hu
    have hyes:qK x y=true->a.take (k+1)=b.take (k+1):=λh=>by
     have:=(rI x y).1 h;subst this;obtain⟨h1,e1⟩:=jS.1 hx;obtain⟨h2,e2⟩:=jS.1 hy;rw[M1 h1,M1 h2,e1,e2,htk]
    have hno:qK x y=false->R=false:=λh=>by
     rw[ER.out];refine zr (λe=> ?_);rw[e,hy]at hx;cases hx
     rw[(rI _ _).2 rfl]at h;cases h
    have HYES:=h_ hyes;have HNO:=h_ hno;have hki:(k:Int)<(n:Int):=by omega
    have k00:(0:Int)<=(k:Int):=by omega
    have HBR:=h_ hbr;clear hx hy hbr hyes hno htk;go_wp2_with fail;refine Free.ai 9 [] (λw2=>Below w.heap.size w w2/\True) (by kernel_rfl) (by kernel_rfl) ?_ ⟨HBR.out.drew,trivial⟩ (λ_ _ h g=>⟨h.1.trans (Below.mono g h.1.size),trivial⟩) ?_
    ·intro j mk r hf;simp only[Free.find]at hf;cases hf
    simp only[eJ,dT];iterate 9 (first|(apply Free.ae (Free.wq rfl) rfl;(intro w' hB hA;exact sE (x:=x) rfl rfl (CX.out w' hB.1));simp only[Pt])|(apply Free.ae (Free.wq rfl) rfl;(intro w' hB hA;exact sE (x:=y) rfl rfl (CY.out w' hB.1));simp only[Pt])|(apply Free.ae rfl rfl;(intro w' hB hA;exact yx (x:=x) (y:=y) rfl rfl rfl);simp only[Pt])|(apply Free.ae (Free.wq rfl) rfl;(intro w' hB hA;obtain⟨qT,qU⟩:=hB;clear hA qT qU;go_light;go_simp<;>rfl);(try simp only[Pt])))
    apply Free.ax;intro wy hBz _ _;have HBY:=h_ hBz.1;simp only[fm,fo];clear hBz HBR;cases hq:qK x y with
    |true=>
     have KEY:Hid (SG w a b (.int .i64 ((k:Int)+1)) wy):=⟨k+1,by have:=HL.out;omega,by go_num,HYES.out hq,HBY.out⟩
     clear HBY hq CX CY HYES HNO;simp only[Bool.not_true];go_wp2_with fail
     go_roundw
     case rel=>
      go_light;have key:=KEY.out;first|exact key|((repeat apply Exists.intro);exact⟨key,rfl⟩)
     case measure=>simp[intOf];omega
    |false=>have HR:=h_ (HNO.out hq);clear hq CX CY HYES HNO;simp only[Bool.not_false];go_wp2_with fail;go_ret;exact⟨by rw[HR.out];rfl,HBY.out⟩
   ·have hki: ¬((k:Int)<(n:Int)):=by omega
    have hR:R=true:=by
     rw[ER.out,ki];have h1:=HL.out;have h2:=HN.out
     rwa[np (by omega),np (by omega)]at htk
    have HR:=h_ hR;have HBR:=h_ hbr;clear hbr hR htk;go_wp2_with fail;go_ret;exact⟨by rw[HR.out];rfl,HBR.out⟩
 ·have hli: ¬((a.length:Int)=(b.length:Int)):=by omega
  have hf:mj a b=false:=zr (λe=>hl (by rw[e]));rw[hf];clear ha hb hl hf;go_enter Tryz.func17,Tryz.ntmps17;go_wp2_with fail;go_ret;exact⟨rfl,Below.refl _ _⟩
end Go.Proofs.YtkmbmfengcdmoaaGreatDoor
namespace Go.Proofs.YtkmbmfengcdmoaaGreatDoor
def rp(l:List UInt8):Nat:=l.foldl (λa d=>a*10+(d.toNat-48)) 0
theorem pY(l:List UInt8)(d:UInt8):rp (l++ [d])=rp l*10+(d.toNat-48):=by simp[rp]
theorem kE(d:Nat)(h:d<10):(UInt8.ofNat (48+d)).toNat=48+d:=by rw[UInt8.toNat_ofNat'];omega
theorem ga(m:Nat):∀u,u<m->rp (Lib.decDigits u)=u/\(∀b∈Lib.decDigits u,48<=b.toNat/\b.toNat<=57)/\Lib.decDigits u≠ []:=by
 induction m with
 |zero=>intro u hu;omega
 |succ m ih=>
  intro u hu;by_cases h:u<10
  ·rw[Lib.decDigits_one h];refine⟨?_, ?_,by simp⟩
   ·show 0*10+((UInt8.ofNat (48+u)).toNat-48)=u;rw[kE u h];omega
   ·intro b hb;rw[vU]at hb;subst hb;rw[kE u h];omega
  ·rw[Lib.decDigits,dif_neg h];obtain⟨h1,h2,_⟩:=ih (u / 10) (by omega);have hd:=kE (u % 10) (by omega);refine⟨?_, ?_,by simp⟩
   ·rw[pY,h1,hd];omega
   ·intro b hb;rcases zT.1 hb with hb|hb
    ·exact h2 b hb
    ·rw[vU]at hb;subst hb;rw[hd];omega
theorem yo{u v:Nat}(h:Lib.decDigits u=Lib.decDigits v):u=v:=by rw[<-(ga (u+1) u (by omega)).1, <-(ga (v+1) v (by omega)).1,h]
theorem jf(n:Int):(∃u:Nat,n=(u:Int))\/∃u:Nat,1<=u/\n= -(u:Int):=by
 by_cases h:0<=n
 ·exact .inl ⟨n.toNat,by omega⟩
 ·exact .inr ⟨(-n).toNat,by omega,by omega⟩
theorem yS{u v:Nat}(h:Lib.decDigits u=45::Lib.decDigits v):False:=by have:=(ga (u+1) u (by omega)).2.1 45 (by rw[h];simp);exact absurd this.1 (by decide)
theorem j5{m n:Int}(h:Lib.itoa m=Lib.itoa n):m=n:=by
 rcases jf m with⟨u,rfl⟩|⟨u,hu,rfl⟩<;>rcases jf n with⟨v,rfl⟩|⟨v,hv,rfl⟩
 ·rw[Lib.itoa_nonneg,Lib.itoa_nonneg]at h;rw[yo h]
 ·rw[Lib.itoa_nonneg,Lib.itoa_neg v hv]at h;exact(yS h).elim
 ·rw[Lib.itoa_neg u hu,Lib.itoa_nonneg]at h;exact(yS h.symm).elim
 ·rw[Lib.itoa_neg u hu,Lib.itoa_neg v hv]at h;injection h with _ h;rw[yo h]
theorem cN(n:Int):(32:UInt8)∉Lib.itoa n:=by
 intro h;rcases jf n with⟨u,rfl⟩|⟨u,hu,rfl⟩
 ·rw[Lib.itoa_nonneg]at h;exact absurd ((ga (u+1) u (by omega)).2.1 32 h).1 (by decide)
 ·rw[Lib.itoa_neg u hu]at h;rcases lC.1 h with h|h
  ·exact absurd h (by decide)
  ·exact absurd ((ga (u+1) u (by omega)).2.1 32 h).1 (by decide)
theorem iy{c:UInt8}:∀ {x y r s:List UInt8},c∉x->c∉y->x++c::r=y++c::s->x=y/\r=s
 | [],[],r,s,_,_,h=>by simpa using h
 | [],b::y,r,s,_,hy,h=>by
  simp at h;exact absurd (by rw[h.1];simp) hy
 |a::x,[],r,s,hx,_,h=>by
  simp at h;exact absurd (by rw[<-h.1];simp) hx
 |a::x,b::y,r,s,hx,hy,h=>by
  simp at h;obtain⟨h1,h2⟩:=iy (x:=x) (y:=y) (λhm=>hx (by simp[hm])) (λhm=>hy (by simp[hm])) h.2;exact⟨by rw[h.1,h1],h2⟩
theorem pX(n:Int):(dec n).data.toList=Lib.itoa n:=rfl
theorem BS(e:aV):Kq e= [101,110,116,114,121]++32::(Lib.itoa e.house++32::(Lib.itoa e.seq++32::(Lib.itoa e.day++32::(Lib.itoa (e.prev.size:Int)++32::(e.prev.data.toList++e.body.data.toList))))):=by unfold Kq Gx Gx Gx Gx Gx;simp only[pX,oL,List.append_assoc,xC,xK]
theorem MU{a b:aV}(h:gb a=gb b):a.house=b.house/\a.seq=b.seq/\a.day=b.day/\a.prev=b.prev/\a.body=b.body:=by
 have h0:Kq a=Kq b:=by have:=congrArg (λt:ByteArray=>t.data.toList) h;simpa[gb]using this
 rw[BS,BS]at h0;have h1:=List.append_cancel_left h0;injection h1 with _ h1;obtain⟨e1,h2⟩:=iy (cN _) (cN _) h1;obtain⟨e2,h3⟩:=iy (cN _) (cN _) h2;obtain⟨e3,h4⟩:=iy (cN _) (cN _) h3;obtain⟨e4,h5⟩:=iy (cN _) (cN _) h4;have e4:=j5 e4;have hsz:a.prev.data.toList.length=b.prev.data.toList.length:=by
  have e5:a.prev.size=b.prev.size:=by omega
  simpa using e5
 obtain⟨h6,h7⟩:=List.append_inj h5 hsz;exact⟨j5 e1,j5 e2,j5 e3,wh h6,wh h7⟩
def bare(e:aV):aV:=⟨e.house,e.seq,e.day,e.prev,e.body,0,0⟩
open Go.RowKit Go.ay Go.Opn Go.ChangeShapes Go.WideShapes Go.Deep Go.OpenShut
theorem Bd{H:Type}{enc:TypeId×Value->H}{w:World}{base:Nat}{spare:Nat->Bool}{held:Bool}{v:Value}{d:DataW H}{ps:List MemPlace}{r:Reach}{b0:Nat}(hv:Value.okWide Tryz.prog w r b0 42 v)(h:DataW.Trod enc Tryz.prog w base spare held 42 v d ps):
  ∃x:aV,v= .agg (aK x).toArray/\x.Ok:=by
 obtain⟨cs,rfl,hsz⟩:=okWide_struct Tryz.underlying42 hv;rw[Ai]at hsz;obtain⟨fuel,hf⟩:=h;obtain⟨a,ha,hcs⟩:=oB hf;refine⟨a, ?_,ha⟩;congr 1;apply M5;show cs.toList=aK a;apply rC;intro i;by_cases hi:i<7
 ·obtain⟨u,hu⟩:∃u,(aK a)[i]? =some u:=⟨_,eH (by rw[bT];exact hi)⟩
  rw[hu];exact hcs i u hu
 ·rw[pz (by simp;omega),pz (by rw[bT];omega)]
end Go.Proofs.YtkmbmfengcdmoaaGreatDoor
namespace Go.Cln
open Go Go.Shelf Go.RowKit Go.Lib Go.Opn Go.Proofs
variable {P:Program} {ρ:Ren}
set_option maxHeartbeats 1000000 in
theorem Al(L:SlLaysE0.n41 P ρ)(i0:TypeInfo)(z:Value)(size bytes:Nat)(hi:P.info? (ρ.t 23)=some i0)(hz0:i0.zero=some z)(hz1:i0.size=size)(hz2:i0.bytes=bytes)(hzs:z.cells.size=size)(hsz:0<size)
  (z23:∀w,(Go.sizeOf (ρ.t 23)).run P w= .ok size w) (a:Addr) (c:Nat) (w:World):
  Calls P (ρ.f 41) #[.slice (some a) 0 c] w λe w'=> ∃v',e= .returned v'/\w'.ownsRow w.heap.size (ρ.t 23) size v' 0 []/\Below w.heap.size w w':=by
 have mixed:=L.mixed;have t4:=L.t4;have a4:=L.a4;have z4:=L.z4;have v4:=L.v4;have t22:=L.t22;have a22:=L.a22;have z22:=L.z22;have v22:=L.v22;have q22:∀(w:World) (a:Option Addr) (n c n' c':Nat),(binOp .eql (ρ.t 22) (.slice a n c) (.slice none n' c')).run P w= .ok (.bool a.isNone) w:=λw a n c n' c'=>Lib.run_eql_slice_nil w _ _ a n c n' c' L.t22
 have u22:∀w,Sem.run P (underlying (ρ.t 22)) w= .ok (TypeDesc.slice (ρ.t 23)) w:=run_underlying t22;obtain⟨_,_,FG⟩:=L.f41;go_enter FG,SlBodyN.n41_ntmps ρ;go_wp2_with (at_builtin;refine wpList_append_own _ rfl _ _ (ρ.t 22) rfl w.heap.size (ρ.t 23) i0 z size bytes t22 hi hz0 hz1 hz2 hzs hsz _ _ _ rfl (World.ownsRow_made w #[] 0 (aL _) (gu _) (by simp)) a 0 c [] rfl ?qc1 ?qc2 ?qc3 ?qc4 ?qc5 ?qc6 ?_)
 case qc1=>simp
 case qc2=>intro j u hj;simp at hj
 case qc3=>intro u hu;cases hu
 case qc4=>exact gu _
 case qc5=>simp
 case qc6=>simp
 intro v' w1 hown hgrow _
 go_wp2
 go_ret;exact⟨v',rfl,by simpa using hown,((Below.refl _ w).alloc (aL _) _).grown hgrow (by simp) (by intro k hk;simp[Value.ownBlock]at hk;omega)⟩
theorem Eh(L:SlLaysE0.n41 P ρ){α:Type}{ec:α->List Value}(i0:TypeInfo)(z:Value)(size bytes:Nat)(hi:P.info? (ρ.t 23)=some i0)(hz0:i0.zero=some z)(hz1:i0.size=size)(hz2:i0.bytes=bytes)(hzs:z.cells.size=size)(hsz:0<size)
  (z23:∀w,(Go.sizeOf (ρ.t 23)).run P w= .ok size w) (hec:∀x,(ec x).length=size) (h1:∀x,∀v∈ec x,v.oneCell'=true) (A:Option Addr) (c:Nat) (l:List α) (w:World) (hl:SL w size ec A l) (hn:l.length<=maxLen) (hbig:l.length*bytes<=140737488355328):
  Calls P (ρ.f 41) #[.slice A l.length c] w λe w'=> ∃A' c',e= .returned (.slice A' l.length c')/\w'.ownsRow w.heap.size (ρ.t 23) size (.slice A' l.length c') l.length (l.flatMap ec)/\Below w.heap.size w w':=by
 have form:∀ {w':World} {v:Value} {n:Nat} {xs:List Value},w'.ownsRow w.heap.size (ρ.t 23) size v n xs->∃A c,v= .slice A n c:=λh=>by
  rcases h.2 with⟨rfl,rfl⟩|⟨g,cap,cur,rfl,_⟩
  ·exact⟨_,_,rfl⟩
  ·exact⟨_,_,rfl⟩
 cases A with
 |none=>
  have hl0:l= []:=by
   cases l with
   |nil=>rfl
   |cons x r=>obtain⟨_,_,h1,_⟩:=hl.cells (by simp);cases h1
  subst hl0;refine(AnyE.slices_Clone_nil L 0 c w).mono ?_;rintro e w' ⟨rfl,rfl⟩;exact⟨none,0,rfl,World.ownsRow_nil _ _ _ _,Below.refl _ _⟩
 |some a=>
  cases l with
  |nil=>refine(Al L i0 z size bytes hi hz0 hz1 hz2 hzs hsz z23 a c w).mono ?_;rintro e w' ⟨v',rfl,ho,hb⟩;obtain⟨A,c,rfl⟩:=form ho;exact⟨A,c,rfl,ho,hb⟩
  |cons x r=>
   obtain⟨b,off,e1,_⟩:=hl.cells (by simp);cases e1
   refine(AnyE.slices_Clone L i0 z size bytes hi hz0 hz1 hz2 hzs hsz z23 b off (x::r).length c ((x::r).flatMap ec) w (Apl.jZ hec _) hn hbig (λj u hj=> ?_) (λu hu=> ?_)).mono ?_
   ·have:=Apl.xg hec hl j u hj
    rwa[Addr.add_lit]at this
   ·obtain⟨y,_,hy⟩:=PT.1 hu;exact h1 y u hy
   ·rintro e w' ⟨v',rfl,ho,_,hb⟩;obtain⟨A,c,rfl⟩:=form ho;exact⟨A,c,rfl,ho,hb⟩
end Go.Cln
