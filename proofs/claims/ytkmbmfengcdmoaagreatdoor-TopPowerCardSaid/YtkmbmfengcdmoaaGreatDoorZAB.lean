/- Plain mathematics of one block of SHA-256, and the relations of the loops of digest.mixed. No condition. -/
import Derived.Test.YtkmbmfengcdmoaaGreatDoorBlk
import Derived.Test.YtkmbmfengcdmoaaGreatDoorZAA
import Derived.Test.YtkmbmfengcdmoaaGreatDoorFree
import Derived.BigFrame
import Derived.Test.YtkmbmfengcdmoaaGreatDoorA0
import Derived.WalkKit
import Derived.Test.YtkmbmfengcdmoaaGreatDoorRows
import Derived.Lib.Hide
import Derived.WalkSpells
import Derived.WalkLawsBesides
set_option linter.all false
namespace Go.Jn
open Go Go.Pa
def jm:List UInt8->Nat->Option Nat
 | [],a=>some a
 |c::r,a=>if 48<=c.toNat/\c.toNat<=57 then jm r (10*a+(c.toNat-48))else none
def cI(s:List UInt8):Option Nat:=jm s 0
theorem sw:∀(s:List UInt8) (a:Nat),(∀b∈s,48<=b.toNat/\b.toNat<=57)->jm s a=some (s.foldl (λa d=>a*10+(d.toNat-48)) a)
 | [],_,_=>rfl
 |c::r,a,h=>by
  unfold jm;rw[if_pos (h c (by simp)),sw r _ (λb e=>h b (by simp[e])),RY,B8]
theorem jn:∀(s:List UInt8) (a:Nat) (b:UInt8),b∈s-> ¬(48<=b.toNat/\b.toNat<=57)->jm s a=none
 | [],_,b,h,_=>by cases h
 |c::r,a,b,h,hb=>by
  unfold jm;split
  ·rename_i d;rcases lC.1 h with rfl|h
   ·exact absurd d hb
   ·exact jn r _ b h hb
  ·rfl
def fc(k n:Nat):List UInt8:=List.replicate (k- (Lib.decDigits n).length) 48++Lib.decDigits n
theorem JB(k n:Nat):∀b∈fc k n,48<=b.toNat/\b.toNat<=57:=λb c=>by
 rcases zT.1 c with h|h
 ·have:=(List.mem_replicate.1 h).2;subst this;decide
 ·exact(jV n).2.1 b h
theorem qM:∀(k:Nat) (s:List UInt8),(List.replicate k (48:UInt8)++s).foldl (λa d=>a*10+(d.toNat-48)) 0=s.foldl (λa d=>a*10+(d.toNat-48)) 0
 |0,_=>rfl
 |k+1,s=>by
  rw[List.replicate_succ,xC,RY];exact qM k s
theorem ox(k n:Nat):cI (fc k n)=some n:=by unfold cI;rw[sw _ _ (JB k n)];unfold fc;rw[qM];exact congrArg some (jV n).1
theorem yp:∀(k n:Nat),1<=k->n<10 ^ k->(Lib.decDigits n).length<=k
 |0,_,h,_=>by omega
 |1,n,_,h=>by rw[Lib.decDigits_one (by simpa using h)];simp
 |k+2,n,_,h=>by
  by_cases b:n<10
  ·rw[Lib.decDigits_one b];simp
  ·rw[Lib.decDigits,dif_neg b,fu]
   have:=yp (k+1) (n / 10) (by omega) (by rw[Nat.div_lt_iff_lt_mul (by decide)];rw[GL]at h;exact h);simp only[kq,qA];omega
theorem gF{k n:Nat}(b:1<=k)(h:n<10 ^ k):(fc k n).length=k:=by have:=yp k n b h;unfold fc;rw[fu,List.length_replicate];omega
def vt(n h l:Nat):List UInt8:=fc 9 n++(fc 1 h++fc 6 l)
theorem BV{n h l:Nat}(b:n<=999999999)(c:h<=1)(d:l<=999999):(vt n h l).length=16:=by unfold vt;rw[fu,fu,gF (by decide) (by omega),gF (by decide) (by omega),gF (by decide) (by omega)]
def bN(s:List UInt8)(room:Nat):Option (Nat×Nat×Nat):=
 if s.length=32/\s.take 16=s.drop 16 then
  match cI (s.take 9)with
  |none=>none
  |some a=>match cI ((s.take 10).drop 9)with
   |none=>none
   |some b=>if b<=1 then(match cI ((s.take 16).drop 10)with
    |none=>none
    |some c=>if c<=room then some (a,b,c)else none)else none
 else none
theorem JC{n h l room:Nat}(k:n<=999999999)(i:h<=1)(m:l<=999999)(p:l<=room):bN (vt n h l++vt n h l) room=some (n,h,l):=by
 have b:=BV k i m;have c:(fc 9 n).length=9:=gF (by decide) (by omega);have j:(fc 1 h).length=1:=gF (by decide) (by omega);have r:(fc 6 l).length=6:=gF (by decide) (by omega);unfold bN;rw[if_pos ⟨by rw[fu,b],by rw[PW b,PZ b]⟩];have g:(vt n h l++vt n h l).take 16=vt n h l:=PW b;have q:(vt n h l++vt n h l).take 9=fc 9 n:=by unfold vt;rw[List.append_assoc];exact PW c
 have f:((vt n h l++vt n h l).take 10).drop 9=fc 1 h:=by
  have e:(vt n h l++vt n h l).take 10=fc 9 n++fc 1 h:=by
   have:vt n h l++vt n h l=(fc 9 n++fc 1 h)++(fc 6 l++vt n h l):=by unfold vt;simp
   rw[this];exact PW (by rw[fu,c,j])
  rw[e];exact PZ c
 have d:(vt n h l).drop 10=fc 6 l:=by
  have:vt n h l=(fc 9 n++fc 1 h)++fc 6 l:=by unfold vt;simp
  rw[this];exact PZ (by rw[fu,c,j])
 rw[q,ox,f,ox];simp only;rw[if_pos i,g,d,ox];simp only;rw[if_pos p]
theorem y8{s:List UInt8}{room:Nat}(h:∃b,b∈s.drop 16/\ ¬(48<=b.toNat/\b.toNat<=57)):bN s room=none:=by
 obtain⟨b,f,g⟩:=h;unfold bN;split
 ·rename_i k;rw[<-k.2]at f;have e:s.take 16=s.take 9++((s.take 10).drop 9++(s.take 16).drop 10):=by
   apply rC;intro i;simp only[List.getElem?_append,qC,GI,jQ,zS,k.1];by_cases d:i<9
   ·simp[d];omega
   ·by_cases l:i<10
    ·have:i=9:=by omega
     subst this;simp
    ·by_cases j:i<16
     ·simp[d,j];rw[if_neg (by omega),if_pos (by omega)];congr 1;omega
     ·simp[d,j];rw[if_neg (by omega),if_neg (by omega)]
  rw[e]at f;rcases zT.1 f with h|h
  ·rw[show cI (s.take 9)=none from jn _ _ b h g]
  ·rcases zT.1 h with h|h
   ·cases cI (s.take 9)with
    |none=>rfl
    |some a=>rw[show cI ((s.take 10).drop 9)=none from jn _ _ b h g]
   ·cases cI (s.take 9)with
    |none=>rfl
    |some a=>
     cases cI ((s.take 10).drop 9)with
     |none=>rfl
     |some c=>
      simp only;split
      ·rw[show cI ((s.take 16).drop 10)=none from jn _ _ b h g]
      ·rfl
 ·rfl
theorem tp(t:List UInt8)(k room:Nat)(d:t.length=32)(c:k<32):bN (t.take k++List.replicate (32-k) 0) room=none:=by
 refine y8 ⟨0, ?_,by decide⟩;have b:(t.take k++List.replicate (32-k) (0:UInt8)).length=32:=by simp;omega
 refine NQ.2 ⟨15, ?_⟩;rw[GI,BW (by rw[jQ];omega),List.getElem?_replicate,if_pos (by rw[jQ];omega)]
theorem qZ(room:Nat):bN (List.replicate 32 0) room=none:=tp (List.replicate 32 0) 0 room (by simp) (by decide)
def bR(b:List UInt8):List UInt8:=fc 4 b.length++b
def gz(l:List (List UInt8)):List UInt8:=l.flatMap bR
theorem kF{b:List UInt8}(h:b.length<=2000):(bR b).length=4+b.length:=by unfold bR;rw[fu,gF (by decide) (by omega)]
def cH:Nat->List UInt8->Option (List (List UInt8))
 |0,t=>if t= []then some []else none
 |f+1,t=>if t= []then some []else if t.length<4 then none else match cI (t.take 4)with
  |none=>none
  |some n=>if 2000<n\/t.length-4<n then none else(cH f (t.drop (4+n))).map (λr=>(t.drop 4).take n::r)
def da(t:List UInt8):Option (List (List UInt8)):=cH t.length t
theorem mo:∀(l:List (List UInt8)) (f:Nat),(∀b∈l,b.length<=2000)->(gz l).length<=f->cH f (gz l)=some l
 | [],0,_,_=>rfl
 | [],f+1,_,_=>rfl
 |b::l,f,h,hf=>by
  have k:=h b (by simp);have e:gz (b::l)=fc 4 b.length++(b++gz l):=by show bR b++gz l=_;unfold bR;rw[List.append_assoc]
  have c:(fc 4 b.length).length=4:=gF (by decide) (by omega);rw[e]at hf⊢;rw[fu,fu,c]at hf;cases f with
  |zero=>omega
  |succ f=>
   have d: ¬(fc 4 b.length++(b++gz l))= []:=λe=>by
    have:=congrArg List.length e;rw[fu,c]at this;simp at this
   unfold cH;rw[if_neg d,if_neg (by rw[fu,c];omega),PW c,ox];simp only;rw[if_neg (by rw[fu,fu,c];omega)];have g:(fc 4 b.length++(b++gz l)).drop (4+b.length)=gz l:=by rw[<-List.append_assoc];exact PZ (by rw[fu,c])
   have i:((fc 4 b.length++(b++gz l)).drop 4).take b.length=b:=by rw[PZ c];exact PW rfl
   rw[g,i,mo l f (λx j=>h x (by simp[j])) (by omega)];rfl
theorem xj{l:List (List UInt8)}(h:∀b∈l,b.length<=2000):da (gz l)=some l:=mo l _ h (aL _)
end Go.Jn
namespace Go.Row
open Go Go.RowKit
section
variable {P:Program} {ops:Array Oper} {Q:Exit->Act->World->Prop} {a:Act} {w:World} {rest:List Oper} {o:Oper}
theorem step(e:Region.wanted o (yielded ops a.tmps)=true){K:Value->World->Prop}(b:Free.dC P o a.eval w K)(c:∀v w',K v w'->wpList P ops Q rest (a.put o.dst v) w'):wpList P ops Q (o::rest) a w:=
 BigFrame.wpList_want e λ_ d=>Free.j7 b λv w' hv=>d _ _ (c v w' hv)
theorem yP(d:Region.wanted o (yielded ops a.tmps)=true){v:Value}{w':World}(b:(execOp a.eval o).run P w= .ok (.value v) w')(c:wpList P ops Q rest (a.put o.dst v) w'):wpList P ops Q (o::rest) a w:=
 step d (K:=λu x=>u=v/\x=w') (Free.cq b ⟨rfl,rfl⟩) (by rintro _ _ ⟨rfl,rfl⟩;exact c)
theorem still(d:Region.wanted o (yielded ops a.tmps)=true){v:Value}(b:(execOp a.eval o).run P w= .ok (.value v) w)(c:wpList P ops Q rest (a.put o.dst v) w):wpList P ops Q (o::rest) a w:=yP d b c
end
end Go.Row
namespace Go.Sg

def gp:Nat:=2147483647
def pw(b n:Nat):Nat:=b ^ n % gp

theorem II:0<gp:=by decide
theorem tw(b n:Nat):pw b n<gp:=M3 _ II
theorem Mw(b:Nat):pw b 0=1:=by simp[pw,gp]
theorem O8(b:Nat)(h:b<gp):pw b 1=b:=by simp[pw,PD h]
theorem nH(b m n:Nat):pw b (m+n)=pw b m*pw b n % gp:=by unfold pw;rw[Nat.pow_add,Nat.mul_mod]
theorem tz(b m n:Nat):pw (pw b m) n=pw b (m*n):=by unfold pw;rw[<-Nat.pow_mod, <-Nat.pow_mul]
theorem mg(n:Nat):pw 1 n=1:=by simp[pw,gp]
def AD(fuel:Nat)(b n r:Nat):Nat:=
 match fuel with
 |0=>r
 |f+1=>AD f (b*b % gp) (n / 2) (if n % 2=1 then r*b % gp else r)
theorem LD(f:Nat):∀b n r,n<2 ^ f->r<gp->AD f b n r=r*b ^ n % gp:=by
 induction f with
 |zero=>
   intro b n r i g;obtain rfl:n=0:=by omega
   simp[AD,PD g]
 |succ f ih=>
  intro b n r i g;have c:n / 2<2 ^ f:=by rw[GL]at i;omega
  unfold AD;have d:∀k,(b*b % gp) ^ k % gp=b ^ (2*k) % gp:=λk=>by
   rw[<-Nat.pow_mod,Nat.pow_mul];congr 2;rw[Nat.pow_two]
  by_cases h:n % 2=1
  ·rw[if_pos h,ih _ _ _ c (M3 _ II)];have e:n=1+2*(n / 2):=by omega
   rw[Nat.mul_mod,d,Nat.mod_mod, <-Nat.mul_mod,P6];congr 2
   conv=>rhs;rw[e,Nat.pow_add,Nat.pow_one]
  ·rw[if_neg h,ih _ _ _ c g];have e:n=2*(n / 2):=by omega
   rw[Nat.mul_mod,d, <-Nat.mul_mod];congr 2
   conv=>rhs;rw[e]
theorem gG(b n:Nat)(h:n<2 ^ 32):pw b n=AD 32 b n 1:=by rw[LD 32 b n 1 h (by decide),Nat.one_mul];rfl
theorem kU:pw 7 2147483646=1:=by rw[gG _ _ (by decide)];decide+kernel
theorem JZ:pw 7 1073741823≠1:=by rw[gG _ _ (by decide)];decide+kernel
theorem J1:pw 7 715827882≠1:=by rw[gG _ _ (by decide)];decide+kernel
theorem J2:pw 7 306783378≠1:=by rw[gG _ _ (by decide)];decide+kernel
theorem Gh:pw 7 195225786≠1:=by rw[gG _ _ (by decide)];decide+kernel
theorem Gi:pw 7 69273666≠1:=by rw[gG _ _ (by decide)];decide+kernel
theorem Bu:pw 7 14221746≠1:=by rw[gG _ _ (by decide)];decide+kernel
theorem Bv:pw 7 6487866≠1:=by rw[gG _ _ (by decide)];decide+kernel

theorem vG(k:Nat):pw 7 (2147483646*k)=1:=by rw[<-tz,kU,mg]
theorem td{g n:Nat}(h:pw 7 g=1)(b:g ∣ n):pw 7 n=1:=by obtain⟨k,rfl⟩:=b;rw[<-tz,h,mg]
theorem one_sub{a b:Nat}(d:pw 7 a=1)(c:pw 7 (a+b)=1):pw 7 b=1:=by rw[nH,d,Nat.one_mul,PD (tw _ _)]at c;exact c
theorem one_mod{a b:Nat}(d:pw 7 a=1)(e:pw 7 b=1):pw 7 (b % a)=1:=by have c:pw 7 (a*(b / a))=1:=td d ⟨_,rfl⟩;refine one_sub c ?_;rw[Nat.div_add_mod];exact e
theorem one_gcd(a:Nat):∀b,pw 7 a=1->pw 7 b=1->pw 7 (Nat.gcd a b)=1:=by
 induction a using Nat.strongRecOn with
 |ind a ih=>
  intro b c d;by_cases e:a=0
  ·subst e;simpa using d
  ·rw[Nat.gcd_rec];exact ih (b % a) (M3 _ (by omega)) a (one_mod c d) c

theorem fZ{q m:Nat}(f:∀d,d<q+1->d ∣ q->d=1\/d=q)(c:0<q)(h: ¬q ∣ m):Nat.Coprime m q:=by
 have b:Nat.gcd m q ∣ q:=Nat.gcd_dvd_right _ _;rcases f _ (Nat.lt_succ_of_le (Nat.le_of_dvd c b)) b with e|e
 ·exact e
 ·exact absurd (e▸Nat.gcd_dvd_left m q) h
theorem jv{q:Nat}(h:(List.range (q+1)).all (λd=>q % d !=0||d==1||d==q)=true):∀d,d<q+1->d ∣ q->d=1\/d=q:=by
 intro d c b
 have:=GJ.1 h d (R2.2 c);have e:q % d=0:=Nat.mod_eq_zero_of_dvd b;simp[e]at this;exact this
theorem Bw{m:Nat}(hm:m ∣ 2147483646)(q:m≠1):2 ∣ m\/3 ∣ m\/7 ∣ m\/11 ∣ m\/31 ∣ m\/151 ∣ m\/331 ∣ m:=by
 refine Sh λl=> ?_
 simp only[not_or]at l;obtain⟨A,B,C,i,j,d,e⟩:=l;have n:=fZ (jv (by decide+kernel)) (by decide) A;have k:=fZ (jv (by decide+kernel)) (by decide) B;have p:=fZ (jv (by decide+kernel)) (by decide) C;have f:=fZ (jv (by decide+kernel)) (by decide) i;have g:=fZ (jv (by decide+kernel)) (by decide) j;have b:=fZ (jv (by decide+kernel)) (by decide) d;have c:=fZ (jv (by decide+kernel)) (by decide) e;have r:m ∣ 2*(3*(3*(7*(11*(31*(151*(331*1))))))):=hm;have s:=n.dvd_of_dvd_mul_left r;have t:=k.dvd_of_dvd_mul_left s;have u:=k.dvd_of_dvd_mul_left t;have v:=p.dvd_of_dvd_mul_left u;have x:=f.dvd_of_dvd_mul_left v;have y:=g.dvd_of_dvd_mul_left x;have z:=b.dvd_of_dvd_mul_left y;have h:=c.dvd_of_dvd_mul_left z;exact q (Nat.dvd_one.1 h)
theorem order{d:Nat}(l:0<d)(h:d<2147483646):pw 7 d≠1:=by
 intro n;have i:=one_gcd d 2147483646 n kU;obtain⟨g,b⟩:=x_ (Nat.gcd d 2147483646)
 rw[<-b]at i;have c:g ∣ 2147483646:=b▸Nat.gcd_dvd_right _ _;have p:g<=d:=Nat.le_of_dvd l (b▸Nat.gcd_dvd_left _ _);obtain⟨m,hm⟩:=c;have f:m≠1:=by rintro rfl;omega
 have key:∀q k,q ∣ m->2147483646=q*k->0<q->pw 7 k=1:=by rintro q k ⟨j,rfl⟩ e r;refine td i ⟨j, ?_⟩;rw[e]at hm;refine Nat.eq_of_mul_eq_mul_left r ?_;rw[hm,Nat.mul_left_comm]
 rcases Bw ⟨g,by rw[hm,B8]⟩ f with h|h|h|h|h|h|h
 ·exact JZ (key 2 _ h rfl (by decide))
 ·exact J1 (key 3 _ h rfl (by decide))
 ·exact J2 (key 7 _ h rfl (by decide))
 ·exact Gh (key 11 _ h rfl (by decide))
 ·exact Gi (key 31 _ h rfl (by decide))
 ·exact Bu (key 151 _ h rfl (by decide))
 ·exact Bv (key 331 _ h rfl (by decide))
theorem zB{i j:Nat}(f:j<2147483646)(c:i<=j)(h:pw 7 i=pw 7 j):i=j:=by
 refine Sh λe=> ?_
 refine order (d:=j-i) (by omega) (by omega) ?_;have b:pw 7 (2147483646-i+i)=pw 7 (2147483646-i+j):=by rw[nH,nH 7 _ j,h]
 rw[show 2147483646-i+i=2147483646 by omega,kU]at b;refine one_sub kU ?_;rw[show 2147483646+(j-i)=2147483646-i+j by omega];exact b.symm
theorem Gg{i j:Nat}(c:i<2147483646)(d:j<2147483646)(h:pw 7 i=pw 7 j):i=j:=by
 rcases Nat.le_total i j with b|b
 ·exact zB d b h
 ·exact(zB c b h.symm).symm
theorem Gw(n:Nat):∀f:Nat->Nat,(∀i,i<n+1->f i<n)->∃i j,i<j/\j<n+1/\f i=f j:=by
 induction n with
 |zero=>intro f d;exact absurd (d 0 (by omega)) (by omega)
 |succ n ih=>
  intro f d;by_cases h:∃i,i<n+1/\f i=f (n+1)
  ·obtain⟨i,c,e⟩:=h;exact⟨i,n+1,c,by omega,e⟩
  ·have b:∀i,i<n+1->f i≠f (n+1):=λi c e=>h ⟨i,c,e⟩
   obtain⟨i,j,g,m,e⟩:=ih (λi=>if f i=n then f (n+1)else f i) (λi c=>by
    have k:=d i (by omega);have l:=d (n+1) (by omega);have p:=b i c;split<;>omega)
   refine⟨i,j,g,by omega, ?_⟩;have k:=b i (by omega);have l:=b j m;split at e<;>split at e<;>omega
theorem Th(n:Nat)(f:Nat->Nat)(g:∀i,i<n->f i<n)(c:∀i j,i<n->j<n->f i=f j->i=j)(y:Nat)(l:y<n):∃i,i<n/\f i=y:=by
 refine Sh λk=> ?_
 have b:∀i,i<n->f i≠y:=λi d e=>k ⟨i,d,e⟩
 obtain⟨i,j,h,m,e⟩:=Gw n (λi=>if i=n then y else f i) (λi d=>by
  split
  ·exact l
  ·exact g i (by omega))
 rw[if_neg (by omega)]at e;split at e
 ·exact b i (by omega) e
 ·exact absurd (c i j (by omega) (by omega) e) (by omega)
theorem kl(n:Nat):1<=pw 7 n:=by
 refine Sh λh=> ?_
 have b:pw 7 n=0:=by omega
 have e:pw 7 (n*2147483646)=1:=by rw[B8];exact vG n
 rw[<-tz,b]at e
 have:pw 0 2147483646=0:=by rw[gG _ _ (by decide)];decide+kernel
 omega
theorem vF(b:Nat)(g:1<=b)(c:b<gp):∃k,pw 7 k=b:=by
 obtain⟨i,_,e⟩:=Th 2147483646 (λi=>pw 7 i-1) (λi _=>by have:=kl i;have:=tw 7 i;unfold gp at this;omega)
  (λi j d f e=>Gg d f (by have:=kl i;have:=kl j;omega)) (b-1) (by unfold gp at c;omega)
 have:=kl i;exact⟨i,by omega⟩
theorem Mv(b:Nat)(c:1<=b)(d:b<gp):pw b 2147483646=1:=by obtain⟨k,rfl⟩:=vF b c d;rw[tz,B8];exact vG k
theorem O9(b n:Nat)(c:1<=b)(d:b<gp):1<=pw b n:=by obtain⟨k,rfl⟩:=vF b c d;rw[tz];exact kl _
theorem O7(b n:Nat)(c:1<=b)(d:b<gp):pw b (n % 2147483646)=pw b n:=by
 conv=>rhs;rw[<-Nat.div_add_mod n 2147483646];rw[nH, <-tz,Mv b c d,mg,Nat.one_mul,PD (tw _ _)]
end Go.Sg
namespace Go.W32
open Go

theorem wrap_u32(n:Int):IntKind.u32.wrap n=n % 4294967296:=by simp[IntKind.wrap,IntKind.bits,IntKind.signed]
theorem Ql(a b:UInt32):IntKind.u32.wrap ((a.toNat:Int)+(b.toNat:Int))=((a+b).toNat:Int):=by rw[wrap_u32,UInt32.toNat_add];omega
theorem fD(a:UInt32):BitVec.ofInt 32 (a.toNat:Int)=a.toBitVec:=by
 apply BitVec.eq_of_toNat_eq;rw[BitVec.ofInt_natCast,BitVec.toNat_ofNat]
 have:=a.toNat_lt;exact PD this
theorem pq(a:UInt32):IntKind.u32.wrap (a.toNat:Int)=(a.toNat:Int):=by rw[wrap_u32];have:=a.toNat_lt;omega
theorem vR(a b:UInt32):bits .xor .u32 (a.toNat:Int) (b.toNat:Int)=((a ^^^ b).toNat:Int):=by show IntKind.u32.wrap ((BitVec.ofInt 32 (a.toNat:Int) ^^^ BitVec.ofInt 32 (b.toNat:Int)).toNat:Int)=_;rw[fD,fD];exact pq (a ^^^ b)
theorem uI(a b:UInt32):bits .and .u32 (a.toNat:Int) (b.toNat:Int)=((a&&&b).toNat:Int):=by show IntKind.u32.wrap ((BitVec.ofInt 32 (a.toNat:Int)&&&BitVec.ofInt 32 (b.toNat:Int)).toNat:Int)=_;rw[fD,fD];exact pq (a&&&b)
theorem Mm(a b:UInt32):bits .or .u32 (a.toNat:Int) (b.toNat:Int)=((a|||b).toNat:Int):=by show IntKind.u32.wrap ((BitVec.ofInt 32 (a.toNat:Int)|||BitVec.ofInt 32 (b.toNat:Int)).toNat:Int)=_;rw[fD,fD];exact pq (a|||b)
theorem NJ(a:UInt32)(n:Nat)(h:n<32):(a.toNat:Int) / 2 ^ n=((a>>>UInt32.ofNat n).toNat:Int):=by
 have e:(UInt32.ofNat n).toNat % 32=n:=by rw[UInt32.toNat_ofNat_of_lt' (by show n<2^32;omega)];omega
 rw[UInt32.toNat_shiftRight,e,Nat.shiftRight_eq_div_pow]
 norm_cast
theorem DG(a:UInt32)(n:Nat)(h:n<32):IntKind.u32.wrap ((a.toNat:Int)*2 ^ n)=((a <<<UInt32.ofNat n).toNat:Int):=by
 have e:(UInt32.ofNat n).toNat % 32=n:=by rw[UInt32.toNat_ofNat_of_lt' (by show n<2^32;omega)];omega
 rw[wrap_u32,UInt32.toNat_shiftLeft,e,Nat.shiftLeft_eq];have q:(a.toNat:Int)*2 ^ n=((a.toNat*2 ^ n:Nat):Int):=by push_cast;rfl
 rw[q];generalize a.toNat*2 ^ n=m;omega
def JR(x:UInt32)(d:Nat):UInt32:=(x <<<UInt32.ofNat (32-d))|||(x>>>UInt32.ofNat d)
end Go.W32
namespace Go.Proofs.YtkmbmfengcdmoaaGreatDoor
open Go.RowKit Go.W32

theorem Qm(d:Nat)(b:0<d)(h:d<32):bits BinOp.and IntKind.u64 (IntKind.u64.wrap (-(d:Int))) 31=((32-d:Nat):Int):=by
 have key:∀d:Nat,d<32->0<d->bits BinOp.and IntKind.u64 (IntKind.u64.wrap (-(d:Int))) 31=((32-d:Nat):Int):=by decide+kernel
 exact key d h b
theorem ME{a b:Int}(h:a=b):Ending.returned (.int .u32 a)= .returned (.int .u32 b):=by rw[h]
theorem Pd(x:UInt32)(c d:Nat)(h:c=32-d)(f:0<d)(e:d<32):bits BinOp.or IntKind.u32 ((x.toNat:Int)*2 ^ c % 4294967296) ((x.toNat:Int) / 2 ^ (32-c))=((JR x d).toNat:Int):=by
 have b:32-c=d:=by omega
 rw[<-wrap_u32,DG x c (by omega),b,NJ x d e,Mm,JR,h]
set_option maxHeartbeats 400000 in
theorem JQ(x:UInt32)(d:Nat)(f:0<d)(g:d<32)(w:World):
  Calls Tryz.prog 274 #[.int .u32 x.toNat, .int .i64 (-(d:Int))] w λe w'=>e= .returned (.int .u32 (JR x d).toNat)/\w=w':=by
 have h:=Qm d f g;obtain⟨c,b⟩:=x_ (32-d:Nat)
 rw[<-b]at h;have i:c<32:=by omega
 have j:0<c:=by omega
 have H:=Lib.hid b;clear b;go_enter Tryz.func274,Tryz.ntmps274
 go_wp2
 go_ret;exact⟨ME (Pd x c d H.out f g),rfl⟩

def kS(x:UInt32)(l:List Nat):UInt32:=l.foldl (λr d=>r ^^^ JR x d) 0
theorem Gc(x:UInt32)(l:List Nat)(k:Nat)(h:k<l.length):kS x (l.take (k+1))=kS x (l.take k) ^^^ JR x l[k]:=by rw[M1 h,kS,PA];rfl
theorem Pv(a b:UInt32):Value.int .u32 (bits .xor .u32 (a.toNat:Int) (b.toNat:Int))=Value.int .u32 ((a ^^^ b).toNat:Int):=by rw[vR]
set_option maxHeartbeats 400000 in
theorem re(x:UInt32)(b:Nat)(l:List Nat)(w:World)(p:l.length<=100)(m:∀d∈l,0<d/\d<32)
  (j:∀k (h:k<l.length),w.cell? ⟨b,k,none⟩=some (.int .i64 (l[k]:Int))):
  Calls Tryz.prog 241 #[.int .u32 x.toNat, .slice (some ⟨b,0,none⟩) l.length l.length] w λe w'=>e= .returned (.int .u32 (kS x l).toNat)/\w=w':=by
 have HC:=Lib.hid j;clear j;go_enter Tryz.func241,Tryz.ntmps241
 go_wp2
 go_loop [5,7,10] (λr _ i=> ∃k:Nat,k<=l.length/\i= .int .i64 k/\r= .int .u32 (kS x (l.take k)).toNat) (λ_ _ i=>l.length- (intOf i).toNat)
 case atStart=>exact⟨0,gu _,rfl,rfl⟩
 case round=>
  obtain⟨k,n,rfl,rfl⟩:=hrel;by_cases f:k<l.length
  ·have g:=HC.out k f;have c:=m l[k] (KM _);have HS:=Lib.hid (Gc x l k f);go_wp2_with (go_at_call 274;refine(JQ x _ c.1 c.2 _).mono ?_;rintro e w' ⟨rfl,rfl⟩)
   go_round
   case rel=>exact⟨k+1,by omega,by go_num,by rw[HS.out, <-Pv]⟩
   case measure=>simp[intOf];omega
  ·go_wp2
   go_ret;exact⟨by rw[np (by omega)];rfl,rfl⟩

open Go.ay
def W(x:UInt32):Value:= .int .u32 x.toNat
def TG(a b c d:UInt8):UInt32:=a.toUInt32 <<<24|||b.toUInt32 <<<16|||c.toUInt32 <<<8|||d.toUInt32
def be(s:ByteArray)(k:Nat):UInt32:=TG (s.data.getD (4*k) 0) (s.data.getD (4*k+1) 0) (s.data.getD (4*k+2) 0) (s.data.getD (4*k+3) 0)
theorem Qr(a b c d:UInt8):bits BinOp.or IntKind.u32
       (bits BinOp.or IntKind.u32
        (bits BinOp.or IntKind.u32
         (IntKind.u32.wrap (IntKind.u32.wrap ↑a.toNat*16777216))
         (IntKind.u32.wrap (IntKind.u32.wrap ↑b.toNat*65536)))
        (IntKind.u32.wrap (IntKind.u32.wrap ↑c.toNat*256)))
       (IntKind.u32.wrap ↑d.toNat)=((TG a b c d).toNat:Int):=by
 have e (x:UInt8):IntKind.u32.wrap ↑x.toNat=(x.toUInt32.toNat:Int):=by rw[wrap_u32];have:=x.toNat_lt;simp;omega
 rw[e,e,e,e];have g:=DG a.toUInt32 24 (by omega);have f:=DG b.toUInt32 16 (by omega);have h:=DG c.toUInt32 8 (by omega);simp only[show(2:Int)^24=16777216 from rfl,show(2:Int)^16=65536 from rfl,show(2:Int)^8=256 from rfl]at g f h;rw[g,f,h,Mm,Mm,Mm];rfl
theorem wj(s:ByteArray)(d:s.size=64)(k:Nat)(c:k<16)(i:Nat)(b:i<4)(h:i<(s.extract (4*k) (4*k+4)).size):(s.extract (4*k) (4*k+4))[i]=s.data.getD (4*k+i) 0:=by rw[ByteArray.getElem_extract,Pw,Si (by show 4*k+i<s.size;omega)];rfl
theorem Oj(s:ByteArray)(c:s.size=64)(k:Nat)(b:k<16)(h:(s.extract (4*k) (4*k+4)).size=4):bits BinOp.or IntKind.u32
           (bits BinOp.or IntKind.u32
            (bits BinOp.or IntKind.u32
             (↑(s.extract (4*k) (4*k+4))[0].toNat % 4294967296*16777216 % 4294967296)
             (↑(s.extract (4*k) (4*k+4))[1].toNat % 4294967296*65536 % 4294967296))
            (↑(s.extract (4*k) (4*k+4))[2].toNat % 4294967296*256 % 4294967296))
           (↑(s.extract (4*k) (4*k+4))[3].toNat % 4294967296)=((be s k).toNat:Int):=by
 have:=Qr (s.data.getD (4*k+0) 0) (s.data.getD (4*k+1) 0) (s.data.getD (4*k+2) 0) (s.data.getD (4*k+3) 0);simp only[wrap_u32]at this;rw[wj s c k b 0 (by omega),wj s c k b 1 (by omega),wj s c k b 2 (by omega),wj s c k b 3 (by omega)];exact this

theorem JY{α:Type}{f:Nat->α}{k:Nat}{ws:List α}(h:∀j,j<k->ws[j]? =some (f j))(b:k<ws.length):∀j,j<k+1->(ws.set k (f k))[j]? =some (f j):=by
 intro j c;by_cases e:j=k
 ·subst e;simp[b]
 ·rw[List.getElem?_set_ne (by omega)];exact h j (by omega)


theorem TI(a:Act)(d:Nat)(v:Value)(h:d<a.tmps.size):(a.put (some d) v).eval (.tmp d)=v:=by simp[Act.put,Act.eval,h]
theorem TH(a:Act)(d t:Nat)(v:Value)(h:d≠t):(a.put (some d) v).eval (.tmp t)=a.eval (.tmp t):=by simp[Act.put,Act.eval,NM h]
theorem TP(a:Act)(d:Option Nat)(v:Value):(a.put d v).tmps.size=a.tmps.size:=by cases d<;>simp[Act.put]
attribute [local go_sem] TI TH TP
theorem RF(x:UInt32)(b:Nat)(c d:Nat)(w:World)(h:0<c/\c<32)(i:0<d/\d<32)(f:w.cell? ⟨b,0,none⟩=some (.int .i64 (c:Int)))(g:w.cell? ⟨b,1,none⟩=some (.int .i64 (d:Int))):
  Calls Tryz.prog 241 #[.int .u32 x.toNat, .slice (some ⟨b,0,none⟩) 2 2] w λe w'=>e= .returned (.int .u32 (kS x [c,d]).toNat)/\w=w':=
 re x b [c,d] w (by simp) (by simp[h,i]) (λk j=>by
  match k,j with
  |0,_=>exact f
  |1,_=>exact g)
theorem RG(x:UInt32)(b:Nat)(c d f:Nat)(w:World)(j:0<c/\c<32)(l:0<d/\d<32)(m:0<f/\f<32)(g:w.cell? ⟨b,0,none⟩=some (.int .i64 (c:Int)))(h:w.cell? ⟨b,1,none⟩=some (.int .i64 (d:Int)))(i:w.cell? ⟨b,2,none⟩=some (.int .i64 (f:Int))):
  Calls Tryz.prog 241 #[.int .u32 x.toNat, .slice (some ⟨b,0,none⟩) 3 3] w λe w'=>e= .returned (.int .u32 (kS x [c,d,f]).toNat)/\w=w':=
 re x b [c,d,f] w (by simp) (by simp[j,l,m]) (λk n=>by
  match k,n with
  |0,_=>exact g
  |1,_=>exact h
  |2,_=>exact i)

def Sy(x:UInt32):UInt32:=kS x [7,18] ^^^ (x>>>3)
def Sz(x:UInt32):UInt32:=kS x [17,19] ^^^ (x>>>10)
def Dr(l:List UInt32):UInt32:=l.getD (l.length-16) 0+Sy (l.getD (l.length-15) 0)+l.getD (l.length-7) 0+Sz (l.getD (l.length-2) 0)
def mX:Nat->List UInt32->List UInt32
 |0,l=>l
 |n+1,l=>mX n l++ [Dr (mX n l)]
def dM(s:ByteArray):List UInt32:=(List.range 16).map (be s)
theorem yB(s:ByteArray):(dM s).length=16:=by simp[dM]
theorem Ir(n:Nat)(l:List UInt32):(mX n l).length=l.length+n:=by
 induction n with
 |zero=>rfl
 |succ n ih=>simp[mX,ih];omega
theorem AE{ws:List UInt32}{s:ByteArray}(c:ws.length=64)(h:∀j,j<16->ws[j]? =some (be s j)):ws.take 16=dM s:=by
 apply rC;intro i;by_cases b:i<16
 ·rw[Sj b,h i b];simp[dM,b]
 ·rw[pz (by simp;omega),pz (by simp[dM];omega)]
theorem mP{ws l:List UInt32}{t i:Nat}(h:ws.take t=l)(c:l.length=t)(b:i<t):ws[i]? =some (l.getD i 0):=by rw[<-Sj b,h,BX,eH (by omega)];rfl
theorem take_set{ws l:List UInt32}{t:Nat}(v:UInt32)(h:ws.take t=l)(b:t<ws.length):(ws.set t v).take (t+1)=l++ [v]:=by rw[M1 (by simpa using b),List.take_set_of_le (aL _),h];simp


theorem sJ{w b:World}{n:Nat}(h:Free.Grow (w.drewN n).drew b):Below w.heap.size w b:=⟨h.os,h.tape,h.output,h.size,h.block⟩
theorem qh{w b:World}(h:Free.Grow w.drew b):Below w.heap.size w b:=⟨h.os,h.tape,h.output,h.size,h.block⟩
theorem dJ{w w':World}{p:Addr}{v:Value}(h:w.cell? p=some v)(g:Free.Grow w w'):w'.cell? p=some v:=by rw[Below.cell g (World.block_lt_of_cell? w _ h)];exact h
theorem Rn(a:UInt32):bits .xor .u32 4294967295 (a.toNat:Int)=((~~~a).toNat:Int):=by
 show IntKind.u32.wrap ((BitVec.ofInt 32 4294967295 ^^^ BitVec.ofInt 32 (a.toNat:Int)).toNat:Int)=_;rw[fD]
 have:BitVec.ofInt 32 4294967295 ^^^ a.toBitVec=(~~~a).toBitVec:=by rw[UInt32.toBitVec_not];exact BitVec.allOnes_xor
 rw[this];exact pq (~~~a)
theorem NI(x:UInt32)(c:Int)(n:Nat)(d:n<32)(b:c=2 ^ n):(x.toNat:Int) / c=((x>>>UInt32.ofNat n).toNat:Int):=by rw[b];exact NJ x n d
theorem add_mod(a b:UInt32):((a.toNat:Int)+(b.toNat:Int)) % 4294967296=((a+b).toNat:Int):=by rw[<-wrap_u32];exact Ql a b
theorem Jj(c b e d:UInt32):((c.toNat:Int)+bits BinOp.xor IntKind.u32 (↑(kS b [7,18]).toNat) (↑b.toNat / 8)+ ↑e.toNat+
  bits BinOp.xor IntKind.u32 (↑(kS d [17,19]).toNat) (↑d.toNat / 1024)) % 4294967296=((c+Sy b+e+Sz d).toNat:Int):=by
 rw[NI b 8 3 (by decide) rfl,NI d 1024 10 (by decide) rfl,vR,vR, <-add_mod, <-add_mod, <-add_mod];simp only[Int.emod_add_emod];rfl

structure S8 where
 a:UInt32
 b:UInt32
 c:UInt32
 d:UInt32
 e:UInt32
 f:UInt32
 g:UInt32
 h:UInt32
def S8.cells(x:S8):List Value:= [W x.a,W x.b,W x.c,W x.d,W x.e,W x.f,W x.g,W x.h]
def tP(x:S8)(kt wt:UInt32):UInt32:=x.h+kS x.e [6,11,25]+((x.e&&&x.f) ^^^ (~~~x.e&&&x.g))+kt+wt
def tQ(x:S8):UInt32:=kS x.a [2,13,22]+(((x.a&&&x.b) ^^^ (x.a&&&x.c)) ^^^ (x.b&&&x.c))
def round(x:S8)(kt wt:UInt32):S8:=⟨tP x kt wt+tQ x,x.a,x.b,x.c,x.d+tP x kt wt,x.e,x.f,x.g⟩
def rounds(K ws:List UInt32)(x:S8):Nat->S8
 |0=>x
 |t+1=>round (rounds K ws x t) (K.getD t 0) (ws.getD t 0)
def S8.add(x y:S8):S8:=⟨x.a+y.a,x.b+y.b,x.c+y.c,x.d+y.d,x.e+y.e,x.f+y.f,x.g+y.g,x.h+y.h⟩
def yO(K:List UInt32)(x:S8)(s:ByteArray):S8:=x.add (rounds K (mX 48 (dM s)) x 64)

def SH(w:World)(s:ByteArray)(x:S8)(i:Value)(wr:World):Prop:=
 ∃(k:Nat) (ws:List UInt32),k<=16/\i= .int .i64 k/\ws.length=64/\(∀j,j<k->ws[j]? =some (be s j))/\ay wr (w.heap.size+1+1) (ws.map W) 331/\ay wr w.heap.size x.cells 292/\ay wr (w.heap.size+1) (List.replicate 8 (W 0)) 292/\Below (w.heap.size) w wr
def Qb(w:World)(s:ByteArray)(x:S8)(i:Value)(wr:World):Prop:=
 ∃(k:Nat) (ws:List UInt32),16<=k/\k<=64/\i= .int .i64 k/\ws.length=64/\ws.take k=mX (k-16) (dM s)/\ay wr (w.heap.size+1+1) (ws.map W) 331/\ay wr w.heap.size x.cells 292/\ay wr (w.heap.size+1) (List.replicate 8 (W 0)) 292/\Below (w.heap.size) w wr
theorem FU{w:World}{s:ByteArray}{x:S8}{k:Nat}{ws l:List UInt32}{b:World}(e:16<=k)(g:k<64)(f:ws.length=64)(c:l.length=k)(d:l=mX (k-16) (dM s))(h:ws.take k=l)
  (i:ay b (w.heap.size+1+1) (ws.map W) 331) (j:ay b w.heap.size x.cells 292) (m:ay b (w.heap.size+1) (List.replicate 8 (W 0)) 292) (n:Below w.heap.size w b) (v:Int)
  (hv:v=((l.getD (k-16) 0+Sy (l.getD (k-15) 0)+l.getD (k-7) 0+Sz (l.getD (k-2) 0)).toNat:Int)):
  Qb w s x (.int .i64 (↑k+1)) (b.setCell ⟨w.heap.size+1+1,k,none⟩ (.int .u32 v)):=by
 subst hv;refine⟨k+1,ws.set k (Dr l),by omega,by omega,by go_num,by simp[f], ?_, ?_,j.cL (by simp;omega) _,m.cL (by simp) _,n.setCell (by simp;omega) _⟩
 ·rw[take_set _ h (by omega),d,show k+1-16=(k-16)+1 by omega];rfl
 ·rw[Py]
  have:Dr l=l.getD (k-16) 0+Sy (l.getD (k-15) 0)+l.getD (k-7) 0+Sz (l.getD (k-2) 0):=by unfold Dr;rw[c]
  rw[this];exact i.set k _

end Go.Proofs.YtkmbmfengcdmoaaGreatDoor
