/- Package journal: read of a sector that the disk gives. -/
import Derived.Test.YtkmbmfengcdmoaaGreatDoorZAT
import Derived.Test.YtkmbmfengcdmoaaGreatDoorZAE
import Derived.Test.YtkmbmfengcdmoaaGreatDoorZAF
import Derived.Test.YtkmbmfengcdmoaaGreatDoorZAA
import Derived.OwnWalk
import Derived.Laws.MakeOwn
import Derived.Test.YtkmbmfengcdmoaaGreatDoorZAQ
set_option linter.all false
set_option maxRecDepth 100000
namespace Go.Jn
open Go Go.Dk
def nc(d:DD):List UInt8:=pL d.st d.aF
theorem xR{n:Nat}{st:List UInt8}(hl:st.length=32*n):∀(p:List (Nat×List UInt8)),(∀x∈p,x.1<n/\x.2.length=32)->(pL st p).length=32*n:=by
 intro p;unfold pL;induction p generalizing st with
 |nil=>intro _;exact hl
 |cons x p ih=>intro h;rw[RY];obtain⟨h1,h2⟩:=h x (by simp);exact ih (by rw[fI _ _ _ (by omega)];exact hl) (λy hy=>h y (by simp[hy]))
theorem DD.Ok.cF{n:Nat}{d:DD}(h:d.Ok n):∀x∈d.aF,x.1<n/\x.2.length=32:=λx hx=>by
 obtain⟨i,hi⟩:=NQ.1 hx;exact h.sec i x hi
theorem mD{n:Nat}{d:DD}(h:d.Ok n):(nc d).length=32*n:=xR h.len _ (DD.Ok.cF h)
theorem Lx{d:DD}(h:d.aF= []):nc d=d.st:=by unfold nc;rw[h];rfl
theorem MI{n:Nat}{st:List UInt8}(hl:st.length=32*n)(s:Nat):∀(m:Nat) (p:List (Nat×List UInt8)),p.length=m->(∀x∈p,x.1<n/\x.2.length=32)->
  sec (pL st p) s=match fR p (s:Int)with
   |some j=>((p[j.toNat]?).map (·.2)).getD []
   |none=>sec st s:=by
 intro m;induction m with
 |zero=>intro p hp _;obtain rfl:=Ky.1 hp;rfl
 |succ m ih=>
  intro p hp h;rcases List.eq_nil_or_concat p with rfl|⟨q,x,rfl⟩
  ·simp at hp
  ·rw[List.concat_eq_append]at hp h⊢;have hq:q.length=m:=by simpa using hp
   have hqs:∀y∈q,y.1<n/\y.2.length=32:=λy hy=>h y (by simp[hy])
   obtain⟨x1,x2⟩:=h x (by simp);have hlq:=xR hl q hqs;rw[pN,qP];show _=match (if(s:Int)=(x.1:Int)then some ((q.length:Nat):Int)else fR q (s:Int))with
    |some j=>((((q++ [x]))[j.toNat]?).map (λy:Nat×List UInt8=>y.2)).getD []
    |none=>sec st s
   by_cases e:(s:Int)=(x.1:Int)
   ·have e':s=x.1:=by omega
    rw[if_pos e,e',iQ x2 (by omega)];simp
   ·rw[if_neg e,ia (by omega) (by omega),ih q hq hqs];cases hl2:fR q (s:Int)with
    |none=>rfl
    |some j=>obtain⟨k,y,rfl,hy,_⟩:=lX hl2;have hk:=(jS.1 hy).1;simp only[tZ];rw[xL hk]
theorem Kk{n:Nat}{d:DD}(h:d.Ok n)(s:Nat):d.text s=sec (nc d) s:=by unfold nc;rw[MI h.len s _ d.aF rfl (DD.Ok.cF h)];rfl
theorem LM{n s:Nat}(h:s<n):DD.hasB n (s:Int)=true:=by unfold DD.hasB;simp;omega
theorem tD{n:Nat}{d:DD}(h:d.Ok n)(hon:d.on=true){s:Nat}(hs:s<n):d.read n (s:Int)=(sec (nc d) s,0):=by unfold DD.read;rw[if_pos hon,if_pos (LM hs),tZ,Kk h s]
structure JS where
 d:DD
 v:Nat×Nat×Nat
 a:Nat
 bW:List (List UInt8)
 broken:Bool
def JS.append(n:Nat)(s:JS)(b:List UInt8):JS×Int:=
 if s.broken then(s,13)else
 if 2000<b.length then(s,3)else
 if 32*((n-2) / 2)<s.v.2.2+(4+b.length)\/s.v.1=999999999 then(s,19)else
 if(cy n s.a s.v.1 s.v.2.1 s.v.2.2 (bR b) s.d).2=0 then
  ({d:=(cy n s.a s.v.1 s.v.2.1 s.v.2.2 (bR b) s.d).1,v:=(s.v.1+1,s.v.2.1,s.v.2.2+(bR b).length),a:=1-s.a,bW:=s.bW++ [b],broken:=false},0)
 else({s with d:=(cy n s.a s.v.1 s.v.2.1 s.v.2.2 (bR b) s.d).1,broken:=true},(cy n s.a s.v.1 s.v.2.1 s.v.2.2 (bR b) s.d).2)
def dR(n:Nat)(d:DD):Int×Option ((Nat×Nat×Nat)×Nat×List (List UInt8)):=
 if d.on=false then(21,none)else
 if n<4 then(1,none)else
 match dp (sec (nc d) 0) (sec (nc d) 1) (32*((n-2) / 2))with
 |none=>(20,none)
 |some (v,a)=>match da (half (nc d) ((n-2) / 2) v.2.1 v.2.2)with
  |none=>(20,none)
  |some r=>(0,some (v,a,r))
theorem th{n:Nat}{d:DD}{v:Nat×Nat×Nat}{a:Nat}{r:List (List UInt8)}(hon:d.on=true)(hn:4<=n)(h:Found n (nc d) v a r):dR n d=(0,some (v,a,r)):=by unfold dR;rw[if_neg (by rw[hon];decide),if_neg (by omega),h.mY];simp only;rw[h.split]
theorem AH{n:Nat}{d:DD}{v:Nat×Nat×Nat}{a:Nat}{r:List (List UInt8)}{c:Int}(h:dR n d=(c,some (v,a,r))):c=0/\d.on=true/\4<=n/\Found n (nc d) v a r:=by
 unfold dR at h;split at h
 ·cases h
 ·rename_i h1;split at h
  ·cases h
  ·rename_i h2;split at h
   ·cases h
   ·rename_i u b hp;split at h
    ·cases h
    ·rename_i q hq;cases h
     exact⟨rfl,by simpa using h1,by omega,hp,hq⟩
end Go.Jn
namespace Go.Proofs.YtkmbmfengcdmoaaGreatDoor
open Go.RowKit Go.ay Go.Jn
def Hq(t:ByteArray)(k:Nat):Int:=if h:k<t.size then((t[k]'h).toNat:Int)else 0
theorem Hr(t:ByteArray):∀(n:Nat) (h:n<t.size),((t[n]'h).toNat:Int)=Hq t n:=λn h=>by unfold Hq;rw[dif_pos h]
def kr(r:Option Nat)(w:World)(e:Ending)(w':World):Prop:=
 w=w'/\((r=none/\e= .returned (.tuple #[.int .i64 0, .bool false]))\/∃n:Nat,r=some n/\e= .returned (.tuple #[.int .i64 (n:Int), .bool true]))
def SF(s:List UInt8)(a i:Value):Prop:=∃k m:Nat,k<=s.length/\i= .int .i64 (k:Int)/\a= .int .i64 (m:Int)/\m<10 ^ k/\cI s=jm (s.drop k) m
theorem su(t:ByteArray)(w:World)(ht:t.size<=16):Calls Tryz.prog 169 #[.string t] w (kr (cI t.data.toList) w):=by
 obtain⟨R,eR⟩:=x_ (kr (cI t.data.toList) w)
 rw[<-eR];have hsz:t.data.toList.length=t.size:=by simp
 have FN:Hid (cI t.data.toList=none->R (.returned (.tuple #[.int .i64 0, .bool false])) w):=λh=>by rw[eR,h];exact⟨rfl, .inl ⟨rfl,rfl⟩⟩
 have FS:Hid (∀n:Nat,cI t.data.toList=some n->R (.returned (.tuple #[.int .i64 (n:Int), .bool true])) w):=λn h=>by rw[eR,h];exact⟨rfl, .inr ⟨n,rfl,rfl⟩⟩
 obtain⟨s,es⟩:=x_ t.data.toList
 have HST:Hid (SF s (.int .i64 0) (.int .i64 0)):=⟨0,0,gu _,rfl,rfl,by decide,rfl⟩
 rw[<-es]at FN FS hsz;have HS:=h_ hsz;have ES:=h_ es;clear eR es hsz;go_enter Tryz.func169,Tryz.ntmps169;go_wp2_with fail
 go_loop [4,8] (λa i=>SF s a i) (λ_ i=>t.size- (intOf i).toNat)
 case atStart=>exact HST.out
 case round=>
  clear HST;obtain⟨k,m,hk,rfl,rfl,hm,hd⟩:=hrel;have HD:=h_ hd;have HM:=h_ hm;rw[HS.out]at hk;clear hd hm;by_cases hlt:k<t.size
  ·have hb:=Hr t;have hki:(k:Int)<(t.size:Int):=by omega
   have hk0:(0:Int)<=(k:Int):=by omega
   have hm15:m<1000000000000000:=nX HM.out (Nat.pow_le_pow_right (n:=10) (by decide) (show k<=15 by omega));obtain⟨c,hc⟩:∃c,s[k]? =some c:=⟨_,eH (by rw[HS.out];exact hlt)⟩
   have hbt:Hq t k=(c.toNat:Int):=by
    rw[<-hb k hlt]
    have:s[k]? =some (t[k]'hlt):=by rw[ES.out];simp[hlt];rfl
    rw[this]at hc;cases hc;rfl
   have hdr:s.drop k=c::s.drop (k+1):=by obtain⟨h1,h2⟩:=jS.1 hc;rw[List.drop_eq_getElem_cons h1,h2]
   have NX:=HD.out;rw[hdr]at NX;unfold jm at NX;have hc8:c.toNat<=255:=by have:=c.toNat_lt;omega
   obtain⟨q,eq⟩:=x_ c.toNat
   rw[<-eq]at hbt NX hc8;clear hc hdr eq;by_cases hq1:48<=q
   ·by_cases hq2:q<=57
    ·rw[if_pos ⟨hq1,hq2⟩]at NX;have NXT:=h_ NX;clear NX;have t1:decide ((q:Int)<48)=false:=by simp;omega
     have t2:decide ((57:Int)<(q:Int))=false:=by simp;omega
     have w1:IntKind.u8.wrap ((q:Int)-48)=((q-48:Nat):Int):=by rw[IntKind.wrap_u8];omega
     have w2:IntKind.i64.wrap (((q-48:Nat):Int))=((q-48:Nat):Int):=by rw[IntWalk.i64_left];exact IntWalk.wrap64_in _ ⟨by omega,by omega⟩
     have w3:IntKind.i64.wrap (10*(m:Int))=((10*m:Nat):Int):=by rw[IntWalk.i64_left,IntWalk.wrap64_in _ ⟨by omega,by omega⟩];omega
     have w4:IntKind.i64.wrap (((10*m:Nat):Int)+((q-48:Nat):Int))=((10*m+(q-48):Nat):Int):=by rw[IntWalk.i64_left,IntWalk.wrap64_in _ ⟨by omega,by omega⟩];omega
     have w5:IntKind.i64.wrap ((k:Int)+1)=((k+1:Nat):Int):=by rw[IntWalk.i64_left,IntWalk.wrap64_in _ ⟨by omega,by omega⟩];omega
     have REL:Hid (SF s (.int .i64 ((10*m+(q-48):Nat):Int)) (.int .i64 ((k+1:Nat):Int))):=⟨k+1,_,by rw[HS.out];omega,rfl,rfl,by have:=HM.out;rw[GL];omega,NXT.out⟩
     go_wp2_with fail;have e1:(10*(m:Int)+((q-48:Nat):Int))=((10*m+(q-48):Nat):Int):=by omega
     have e2:((k:Int)+1)=((k+1:Nat):Int):=by omega
     rw[e1,e2];refine⟨REL.out, ?_⟩;show t.size- (((k+1:Nat):Int)).toNat<t.size- ((k:Nat):Int).toNat;omega
    ·rw[if_neg (by omega)]at NX;have F:=h_ (FN.out NX);clear NX;have t1:decide ((q:Int)<48)=false:=by simp;omega
     have t2:decide ((57:Int)<(q:Int))=true:=by simp;omega
     go_wp2_with fail;exact F.out
   ·rw[if_neg (by omega)]at NX;have F:=h_ (FN.out NX);clear NX;have t1:decide ((q:Int)<48)=true:=by simp;omega
    go_wp2_with fail;exact F.out
  ·have hke:k=t.size:=by omega
   have F:Hid (R (.returned (.tuple #[.int .i64 (m:Int), .bool true])) w):=FS.out m (by rw[HD.out,List.drop_eq_nil_of_le (by rw[HS.out];omega)];rfl);subst hke;go_wp2_with fail;exact F.out
theorem sP(w:World):Calls Tryz.prog 168 #[] w λe w'=>e= .returned (.string (tx (List.replicate 32 0)))/\Below w.heap.size w w':=by
 have R1:Hid (∀w,Calls Tryz.prog 223 #[.string ⟨#[0]⟩, .int .i64 32] w λe w'=>e= .returned (.string (tx (List.replicate 32 0)))/\Below w.heap.size w w'):=λw=>by
  have:=Tryz.strings_Repeat ⟨#[0]⟩ 32 w (by omega) (by show 1*32<=_;omega);exact this
 go_enter Tryz.func168,Tryz.ntmps168;go_wp2_with fail;refine(R1.out _).mono ?_;rintro e w1 ⟨rfl,hb1⟩;go_wp2_with fail;go_ret;exact⟨rfl,hb1⟩
theorem aB{P:Program}{fn:Func}{p u:Tmp}{ty:TypeId}{v:Value}(h:fn.results= #[.cell p ty, .tmp u])(tmps:Array Value)(w:World)(g:Nat)(t:TypeId)(cs:Array Value)(fr:Nat×Nat)(d:TypeDesc)
  (hp:tmps.getD p undef= .pointer (some ⟨g,0,none⟩)) (hg:w.heap[g]? =some (.cells cs t fr))
  (hu:P.underlying ty=some d) (hd:(match d with| .struct _| .array _ _=>true|_=>false)=true) (hi:(P.info? ty).map (·.size)=some cs.size) (hv:tmps.getD u undef=v):
  (results fn tmps).run P w= .ok (.tuple #[.agg cs,v]) w:=by
 have hp':tmps[p]?.getD undef= .pointer (some ⟨g,0,none⟩):=by simpa using hp
 have hv':tmps[u]?.getD undef=v:=by simpa using hv
 simp[results,h,hp',hv',asAddr,run_loadVar_row w g t ty cs fr d hg hu hd hi]
def nQ(a b c:Nat):Value:= .agg #[.int .i64 (a:Int), .int .i64 (b:Int), .int .i64 (c:Int)]
def vW(r:Option (Nat×Nat×Nat))(w:World)(e:Ending)(w':World):Prop:=
 Below w.heap.size w w'/\((r=none/\e= .returned (.tuple #[nQ 0 0 0, .bool false]))\/∃v:Nat×Nat×Nat,r=some v/\e= .returned (.tuple #[nQ v.1 v.2.1 v.2.2, .bool true]))
theorem AU(t:ByteArray)(room:Nat)(w:World)(hr:room<=999999999)(ht:t.size<=1000000):
  Calls Tryz.prog 167 #[.string t, .int .i64 (room:Int)] w (vW (bN t.data.toList room) w):=by
 obtain⟨R,eR⟩:=x_ (vW (bN t.data.toList room) w)
 rw[<-eR];have hsz:t.data.toList.length=t.size:=by simp
 have FN:Hid (bN t.data.toList room=none->∀w',Below w.heap.size w w'->R (.returned (.tuple #[nQ 0 0 0, .bool false])) w'):=λh w' hb=>by rw[eR,h];exact⟨hb, .inl ⟨rfl,rfl⟩⟩
 have FS:Hid (∀v:Nat×Nat×Nat,bN t.data.toList room=some v->∀w',Below w.heap.size w w'->R (.returned (.tuple #[nQ v.1 v.2.1 v.2.2, .bool true])) w'):=λv h w' hb=>by rw[eR,h];exact⟨hb, .inr ⟨v,rfl,rfl⟩⟩
 have D1:Hid (∀(u:ByteArray) (w:World),u.size<=16->Calls Tryz.prog 169 #[.string u] w (kr (cI u.data.toList) w)):=λu w h=>su u w h
 clear eR;have g2:∀a b c:Nat,(Tryz.prog.info? 187).map (·.size)=some (#[Value.int .i64 (a:Int), .int .i64 (b:Int), .int .i64 (c:Int)]:Array Value).size:=λa b c=>by kernel_rfl
 have g1:∀a b c:Nat,(#[Value.int .i64 (a:Int), .int .i64 (b:Int), .int .i64 (c:Int)].all (·.oneCell'))=true:=λa b c=>by simp[Value.oneCell']
 have G2:=h_ g2;have G1:=h_ g1;clear g1 g2;by_cases h32:t.size=32
 ·have t1:((t.size:Int)==32)=true:=by simp;omega
  have t2:((t.size:Int) !=32)=false:=by simp;omega
  have z16:(16:Int)<=(t.size:Int):=by omega
  obtain⟨s,es⟩:=x_ t.data.toList
  obtain⟨E,eE⟩:=x_ (((t.extract 0 16).toList==(t.extract 16 32).toList))
  have hE:E=decide (s.take 16=s.drop 16):=by
   rw[eE,ByteArray.toList_eq,ByteArray.toList_eq];have e1:(t.extract 0 16).data.toList=s.take 16:=by rw[es];simp
   have e2:(t.extract 16 32).data.toList=s.drop 16:=by rw[es];simp;exact np (by simp;omega)
   rw[e1,e2,Px];simp
  have x1:(t.extract 0 9).data.toList=s.take 9:=by rw[es];simp
  have x2:(t.extract 9 10).data.toList=(s.take 10).drop 9:=by rw[es];simp[List.drop_take]
  have x3:(t.extract 10 16).data.toList=(s.take 16).drop 10:=by rw[es];simp[List.drop_take]
  have hsl:s.length=32:=by rw[es,hsz,h32]
  rw[<-es]at FN FS;have F0:=h_ (fun(h:E=false)=>FN.out (by unfold bN;rw[if_neg (by rw[hE]at h;simp at h;exact λhh=>h hh.2)]));have F1:=h_ (fun(h:E=true) (h1:cI (s.take 9)=none)=>FN.out (by unfold bN;rw[if_pos ⟨hsl,by rw[hE]at h;simpa using h⟩,h1]));have F2:=h_ (fun(h:E=true) (a:Nat) (h1:cI (s.take 9)=some a) (h2:cI ((s.take 10).drop 9)=none)=>FN.out (by unfold bN;rw[if_pos ⟨hsl,by rw[hE]at h;simpa using h⟩,h1];simp only;rw[h2]));have F3:=h_ (fun(h:E=true) (a b:Nat) (h1:cI (s.take 9)=some a) (h2:cI ((s.take 10).drop 9)=some b) (h3: ¬b<=1)=>FN.out (by unfold bN;rw[if_pos ⟨hsl,by rw[hE]at h;simpa using h⟩,h1];simp only;rw[h2];simp only;rw[if_neg h3]));have F4:=h_ (fun(h:E=true) (a b:Nat) (h1:cI (s.take 9)=some a) (h2:cI ((s.take 10).drop 9)=some b) (h3:b<=1) (h4:cI ((s.take 16).drop 10)=none)=>FN.out (by unfold bN;rw[if_pos ⟨hsl,by rw[hE]at h;simpa using h⟩,h1];simp only;rw[h2];simp only;rw[if_pos h3,h4]));have F5:=h_ (fun(h:E=true) (a b c:Nat) (h1:cI (s.take 9)=some a) (h2:cI ((s.take 10).drop 9)=some b) (h3:b<=1) (h4:cI ((s.take 16).drop 10)=some c) (h5: ¬c<=room)=>FN.out (by unfold bN;rw[if_pos ⟨hsl,by rw[hE]at h;simpa using h⟩,h1];simp only;rw[h2];simp only;rw[if_pos h3,h4];simp only;rw[if_neg h5]));have F6:=h_ (fun(h:E=true) (a b c:Nat) (h1:cI (s.take 9)=some a) (h2:cI ((s.take 10).drop 9)=some b) (h3:b<=1) (h4:cI ((s.take 16).drop 10)=some c) (h5:c<=room)=>FS.out (a,b,c) (by unfold bN;rw[if_pos ⟨hsl,by rw[hE]at h;simpa using h⟩,h1];simp only;rw[h2];simp only;rw[if_pos h3,h4];simp only;rw[if_pos h5]));have Q1:Hid (∀w,Calls Tryz.prog 169 #[.string (t.extract 0 9)] w (kr (cI (s.take 9)) w)):=λw=>by rw[<-x1];exact D1.out _ w (by rw[P8];omega)
  have Q2:Hid (∀w,Calls Tryz.prog 169 #[.string (t.extract 9 10)] w (kr (cI ((s.take 10).drop 9)) w)):=λw=>by rw[<-x2];exact D1.out _ w (by rw[P8];omega)
  have Q3:Hid (∀w,Calls Tryz.prog 169 #[.string (t.extract 10 16)] w (kr (cI ((s.take 16).drop 10)) w)):=λw=>by rw[<-x3];exact D1.out _ w (by rw[P8];omega)
  have EE:=h_ eE;clear FN FS D1 x1 x2 x3 hE es hsl eE;go_enter Tryz.func167,Tryz.ntmps167;go_wp2_with fail;obtain⟨V,eV⟩:=x_ (w.alloc (.cells #[.int .i64 0, .int .i64 0, .int .i64 0] 187))
  have HBV:Hid (Below w.heap.size w V):=by rw[eV];exact(Below.refl _ w).alloc (aL _) _
  have hk:ay V w.heap.size [.int .i64 0, .int .i64 0, .int .i64 0] 187:=by rw[eV];exact ay.new w _ _
  rw[<-eV];clear eV;refine Free.ai 10 [] (λy=>Below V.heap.size V y/\True) (by kernel_rfl) (by kernel_rfl) (Free.aW (λj mk r hf=>by cases hf)) ⟨(Below.refl _ _).drew,trivial⟩ (λ_ _ h g=>⟨h.1.trans (Below.mono g h.1.size),trivial⟩) ?_;simp only[eJ,dT];iterate 9 (apply Free.ae (Free.wq rfl) rfl;(intro w' hB hA;obtain⟨qB,_⟩:=hB;clear hA qB;go_light;go_simp<;>rfl);(try simp only[Pt]))
  rw[<-EE.out];iterate 1 (apply Free.ae (Free.wq rfl) rfl;(intro w' hB hA;obtain⟨qB,_⟩:=hB;clear hA qB;go_light;go_simp<;>rfl);(try simp only[Pt]))
  apply Free.ax;intro wz hBz _ _;simp only[fm,fo];have L:=h_ (HBV.out.trans (hBz.1.mono HBV.out.size));have HR:=h_ (hk.below hBz.1 hk.lt);clear hBz hk;obtain⟨E1,e1⟩:=x_ E
  rw[<-e1];cases E1 with
  |false=>
   have H1:=h_ e1.symm;clear e1;have F:=h_ (F0.out H1.out);go_wp2_with (refine wpList_store_row rfl 187 (.tmp 4) (.tmp 20) rfl w.heap.size #[.int .i64 ((0:Nat):Int), .int .i64 ((0:Nat):Int), .int .i64 ((0:Nat):Int)] rfl rfl 187 #[.int .i64 0, .int .i64 0, .int .i64 0] HR.out (G2.out 0 0 0) rfl (G1.out 0 0 0) ?_)
   have hset:=setRow_heap wz w.heap.size #[.int .i64 0, .int .i64 0, .int .i64 0] #[.int .i64 ((0:Nat):Int), .int .i64 ((0:Nat):Int), .int .i64 ((0:Nat):Int)] 187 (0,0) HR.out;refine bodyPost_ret (v:= .tuple #[nQ 0 0 0, .bool false]) (aB (fn:=Tryz.f167) (p:=4) (u:=5) (ty:=187) rfl _ _ w.heap.size 187 #[.int .i64 ((0:Nat):Int), .int .i64 ((0:Nat):Int), .int .i64 ((0:Nat):Int)] (0,0) _ rfl hset Tryz.underlying187 rfl (by kernel_rfl) rfl) rfl ?_;refine F.out _ (L.out.grown (row:=some w.heap.size) ⟨rfl,rfl,rfl,by simp[World.setRow],λg _ hg=> ?_⟩ L.out.size (λj e=>by cases e;omega));simp only[World.setRow,vS];rw[if_neg (λe=>hg (by rw[e]))]
  |true=>
   have H1:=h_ e1.symm;clear e1;go_wp2_with fail;refine(Q1.out _).mono ?_;rintro e w' ⟨rfl,⟨h1,rfl⟩|⟨a,h1,rfl⟩⟩
   ·have F:=h_ (F1.out H1.out h1);go_wp2_with (refine wpList_store_row rfl 187 (.tmp 4) (.tmp 29) rfl w.heap.size #[.int .i64 ((0:Nat):Int), .int .i64 ((0:Nat):Int), .int .i64 ((0:Nat):Int)] rfl rfl 187 #[.int .i64 0, .int .i64 0, .int .i64 0] HR.out (G2.out 0 0 0) rfl (G1.out 0 0 0) ?_)
    have hset:=setRow_heap wz w.heap.size #[.int .i64 0, .int .i64 0, .int .i64 0] #[.int .i64 ((0:Nat):Int), .int .i64 ((0:Nat):Int), .int .i64 ((0:Nat):Int)] 187 (0,0) HR.out;refine bodyPost_ret (v:= .tuple #[nQ 0 0 0, .bool false]) (aB (fn:=Tryz.f167) (p:=4) (u:=5) (ty:=187) rfl _ _ w.heap.size 187 #[.int .i64 ((0:Nat):Int), .int .i64 ((0:Nat):Int), .int .i64 ((0:Nat):Int)] (0,0) _ rfl hset Tryz.underlying187 rfl (by kernel_rfl) rfl) rfl ?_;refine F.out _ (L.out.grown (row:=some w.heap.size) ⟨rfl,rfl,rfl,by simp[World.setRow],λg _ hg=> ?_⟩ L.out.size (λj e=>by cases e;omega));simp only[World.setRow,vS];rw[if_neg (λe=>hg (by rw[e]))]
   ·go_wp2_with fail;refine(Q2.out _).mono ?_;rintro e w' ⟨rfl,⟨h2,rfl⟩|⟨b,h2,rfl⟩⟩
    ·have F:=h_ (F2.out H1.out a h1 h2);go_wp2_with (refine wpList_store_row rfl 187 (.tmp 4) (.tmp 42) rfl w.heap.size #[.int .i64 ((0:Nat):Int), .int .i64 ((0:Nat):Int), .int .i64 ((0:Nat):Int)] rfl rfl 187 #[.int .i64 0, .int .i64 0, .int .i64 0] HR.out (G2.out 0 0 0) rfl (G1.out 0 0 0) ?_)
     have hset:=setRow_heap wz w.heap.size #[.int .i64 0, .int .i64 0, .int .i64 0] #[.int .i64 ((0:Nat):Int), .int .i64 ((0:Nat):Int), .int .i64 ((0:Nat):Int)] 187 (0,0) HR.out;refine bodyPost_ret (v:= .tuple #[nQ 0 0 0, .bool false]) (aB (fn:=Tryz.f167) (p:=4) (u:=5) (ty:=187) rfl _ _ w.heap.size 187 #[.int .i64 ((0:Nat):Int), .int .i64 ((0:Nat):Int), .int .i64 ((0:Nat):Int)] (0,0) _ rfl hset Tryz.underlying187 rfl (by kernel_rfl) rfl) rfl ?_;refine F.out _ (L.out.grown (row:=some w.heap.size) ⟨rfl,rfl,rfl,by simp[World.setRow],λg _ hg=> ?_⟩ L.out.size (λj e=>by cases e;omega));simp only[World.setRow,vS];rw[if_neg (λe=>hg (by rw[e]))]
    ·by_cases hb:b<=1
     ·have tb:decide ((1:Int)<(b:Int))=false:=by simp;omega
      go_wp2_with fail;refine(Q3.out _).mono ?_;rintro e w' ⟨rfl,⟨h3,rfl⟩|⟨c,h3,rfl⟩⟩
      ·have F:=h_ (F4.out H1.out a b h1 h2 hb h3);go_wp2_with (refine wpList_store_row rfl 187 (.tmp 4) (.tmp 56) rfl w.heap.size #[.int .i64 ((0:Nat):Int), .int .i64 ((0:Nat):Int), .int .i64 ((0:Nat):Int)] rfl rfl 187 #[.int .i64 0, .int .i64 0, .int .i64 0] HR.out (G2.out 0 0 0) rfl (G1.out 0 0 0) ?_)
       have hset:=setRow_heap wz w.heap.size #[.int .i64 0, .int .i64 0, .int .i64 0] #[.int .i64 ((0:Nat):Int), .int .i64 ((0:Nat):Int), .int .i64 ((0:Nat):Int)] 187 (0,0) HR.out;refine bodyPost_ret (v:= .tuple #[nQ 0 0 0, .bool false]) (aB (fn:=Tryz.f167) (p:=4) (u:=5) (ty:=187) rfl _ _ w.heap.size 187 #[.int .i64 ((0:Nat):Int), .int .i64 ((0:Nat):Int), .int .i64 ((0:Nat):Int)] (0,0) _ rfl hset Tryz.underlying187 rfl (by kernel_rfl) rfl) rfl ?_;refine F.out _ (L.out.grown (row:=some w.heap.size) ⟨rfl,rfl,rfl,by simp[World.setRow],λg _ hg=> ?_⟩ L.out.size (λj e=>by cases e;omega));simp only[World.setRow,vS];rw[if_neg (λe=>hg (by rw[e]))]
      ·by_cases hc:c<=room
       ·have F:=h_ (F6.out H1.out a b c h1 h2 hb h3 hc);have tc:decide ((room:Int)<(c:Int))=false:=by simp;omega
        have tc':decide (room<c)=false:=by simp;omega
        go_wp2_with (refine wpList_store_row rfl 187 (.tmp 4) (.tmp 60) rfl w.heap.size #[.int .i64 ((a:Nat):Int), .int .i64 ((b:Nat):Int), .int .i64 ((c:Nat):Int)] rfl rfl 187 #[.int .i64 0, .int .i64 0, .int .i64 0] HR.out (G2.out a b c) rfl (G1.out a b c) ?_)
        have hset:=setRow_heap wz w.heap.size #[.int .i64 0, .int .i64 0, .int .i64 0] #[.int .i64 ((a:Nat):Int), .int .i64 ((b:Nat):Int), .int .i64 ((c:Nat):Int)] 187 (0,0) HR.out;refine bodyPost_ret (v:= .tuple #[nQ a b c, .bool true]) (aB (fn:=Tryz.f167) (p:=4) (u:=5) (ty:=187) rfl _ _ w.heap.size 187 #[.int .i64 ((a:Nat):Int), .int .i64 ((b:Nat):Int), .int .i64 ((c:Nat):Int)] (0,0) _ rfl hset Tryz.underlying187 rfl (by kernel_rfl) rfl) rfl ?_;refine F.out _ (L.out.grown (row:=some w.heap.size) ⟨rfl,rfl,rfl,by simp[World.setRow],λg _ hg=> ?_⟩ L.out.size (λj e=>by cases e;omega));simp only[World.setRow,vS];rw[if_neg (λe=>hg (by rw[e]))]
       ·have F:=h_ (F5.out H1.out a b c h1 h2 hb h3 hc);have tc:decide ((room:Int)<(c:Int))=true:=by simp;omega
        have tc':decide (room<c)=true:=by simp;omega
        go_wp2_with (refine wpList_store_row rfl 187 (.tmp 4) (.tmp 56) rfl w.heap.size #[.int .i64 ((0:Nat):Int), .int .i64 ((0:Nat):Int), .int .i64 ((0:Nat):Int)] rfl rfl 187 #[.int .i64 0, .int .i64 0, .int .i64 0] HR.out (G2.out 0 0 0) rfl (G1.out 0 0 0) ?_)
        have hset:=setRow_heap wz w.heap.size #[.int .i64 0, .int .i64 0, .int .i64 0] #[.int .i64 ((0:Nat):Int), .int .i64 ((0:Nat):Int), .int .i64 ((0:Nat):Int)] 187 (0,0) HR.out;refine bodyPost_ret (v:= .tuple #[nQ 0 0 0, .bool false]) (aB (fn:=Tryz.f167) (p:=4) (u:=5) (ty:=187) rfl _ _ w.heap.size 187 #[.int .i64 ((0:Nat):Int), .int .i64 ((0:Nat):Int), .int .i64 ((0:Nat):Int)] (0,0) _ rfl hset Tryz.underlying187 rfl (by kernel_rfl) rfl) rfl ?_;refine F.out _ (L.out.grown (row:=some w.heap.size) ⟨rfl,rfl,rfl,by simp[World.setRow],λg _ hg=> ?_⟩ L.out.size (λj e=>by cases e;omega));simp only[World.setRow,vS];rw[if_neg (λe=>hg (by rw[e]))]
     ·have F:=h_ (F3.out H1.out a b h1 h2 hb);have tb:decide ((1:Int)<(b:Int))=true:=by simp;omega
      go_wp2_with (refine wpList_store_row rfl 187 (.tmp 4) (.tmp 42) rfl w.heap.size #[.int .i64 ((0:Nat):Int), .int .i64 ((0:Nat):Int), .int .i64 ((0:Nat):Int)] rfl rfl 187 #[.int .i64 0, .int .i64 0, .int .i64 0] HR.out (G2.out 0 0 0) rfl (G1.out 0 0 0) ?_)
      have hset:=setRow_heap wz w.heap.size #[.int .i64 0, .int .i64 0, .int .i64 0] #[.int .i64 ((0:Nat):Int), .int .i64 ((0:Nat):Int), .int .i64 ((0:Nat):Int)] 187 (0,0) HR.out;refine bodyPost_ret (v:= .tuple #[nQ 0 0 0, .bool false]) (aB (fn:=Tryz.f167) (p:=4) (u:=5) (ty:=187) rfl _ _ w.heap.size 187 #[.int .i64 ((0:Nat):Int), .int .i64 ((0:Nat):Int), .int .i64 ((0:Nat):Int)] (0,0) _ rfl hset Tryz.underlying187 rfl (by kernel_rfl) rfl) rfl ?_;refine F.out _ (L.out.grown (row:=some w.heap.size) ⟨rfl,rfl,rfl,by simp[World.setRow],λg _ hg=> ?_⟩ L.out.size (λj e=>by cases e;omega));simp only[World.setRow,vS];rw[if_neg (λe=>hg (by rw[e]))]
 ·have F:=h_ (FN.out (by unfold bN;rw[if_neg (by omega)]));have t1:((t.size:Int)==32)=false:=by simp;omega
  have t2:((t.size:Int) !=32)=true:=by simp;omega
  clear FN FS;go_enter Tryz.func167,Tryz.ntmps167;go_wp2_with fail;obtain⟨V,eV⟩:=x_ (w.alloc (.cells #[.int .i64 0, .int .i64 0, .int .i64 0] 187))
  have HBV:Hid (Below w.heap.size w V):=by rw[eV];exact(Below.refl _ w).alloc (aL _) _
  have hk:ay V w.heap.size [.int .i64 0, .int .i64 0, .int .i64 0] 187:=by rw[eV];exact ay.new w _ _
  rw[<-eV];clear eV;refine Free.ai 10 [] (λy=>Below V.heap.size V y/\True) (by kernel_rfl) (by kernel_rfl) (Free.aW (λj mk r hf=>by cases hf)) ⟨(Below.refl _ _).drew,trivial⟩ (λ_ _ h g=>⟨h.1.trans (Below.mono g h.1.size),trivial⟩) ?_;simp only[eJ,dT];iterate 10 (first|(apply Free.dw (by exact fk rfl rfl rfl rfl);simp only[Pt])|(apply Free.ae (Free.wq rfl) rfl;(intro w' hB hA;obtain⟨qB,_⟩:=hB;clear hA qB;go_light;go_simp<;>rfl);(try simp only[Pt])))
  apply Free.ax;intro wz hBz _ _;simp only[fm,fo];have L:=h_ (HBV.out.trans (hBz.1.mono HBV.out.size));have HR:=h_ (hk.below hBz.1 hk.lt);clear hBz hk;go_wp2_with (refine wpList_store_row rfl 187 (.tmp 4) (.tmp 20) rfl w.heap.size #[.int .i64 ((0:Nat):Int), .int .i64 ((0:Nat):Int), .int .i64 ((0:Nat):Int)] rfl rfl 187 #[.int .i64 0, .int .i64 0, .int .i64 0] HR.out (G2.out 0 0 0) rfl (G1.out 0 0 0) ?_)
  have hset:=setRow_heap wz w.heap.size #[.int .i64 0, .int .i64 0, .int .i64 0] #[.int .i64 ((0:Nat):Int), .int .i64 ((0:Nat):Int), .int .i64 ((0:Nat):Int)] 187 (0,0) HR.out;refine bodyPost_ret (v:= .tuple #[nQ 0 0 0, .bool false]) (aB (fn:=Tryz.f167) (p:=4) (u:=5) (ty:=187) rfl _ _ w.heap.size 187 #[.int .i64 ((0:Nat):Int), .int .i64 ((0:Nat):Int), .int .i64 ((0:Nat):Int)] (0,0) _ rfl hset Tryz.underlying187 rfl (by kernel_rfl) rfl) rfl ?_;refine F.out _ (L.out.grown (row:=some w.heap.size) ⟨rfl,rfl,rfl,by simp[World.setRow],λg _ hg=> ?_⟩ L.out.size (λj e=>by cases e;omega));simp only[World.setRow,vS];rw[if_neg (λe=>hg (by rw[e]))]
end Go.Proofs.YtkmbmfengcdmoaaGreatDoor
namespace Go.Jn
theorem lf:∀(N:Nat) (t:List UInt8) (f:Nat),t.length<=N->t.length<=f->cH f t=cH t.length t
 |0,t,f,hN,_=>by
  obtain rfl:=Ky.1 (Nat.le_zero.1 hN);cases f<;>rfl
 |N+1,t,f,hN,hf=>by
  by_cases ht:t= []
  ·subst ht;cases f<;>rfl
  ·have hp:=List.length_pos_iff.2 ht;obtain⟨g,hg⟩:∃g,t.length=g+1:=⟨t.length-1,by omega⟩
   obtain⟨f',rfl⟩:∃f',f=f'+1:=⟨f-1,by omega⟩
   rw[hg];unfold cH;rw[if_neg ht,if_neg ht];split
   ·rfl
   ·rename_i h4;cases cI (t.take 4)with
    |none=>rfl
    |some n=>
     simp only;split
     ·rfl
     ·rw[lf N (t.drop (4+n)) f' (by rw[zS];omega) (by rw[zS];omega),lf N (t.drop (4+n)) g (by rw[zS];omega) (by rw[zS];omega)]
theorem BD{t:List UInt8}(h:t≠ []):da t=if t.length<4 then none else match cI (t.take 4)with
  |none=>none
  |some n=>if 2000<n\/t.length-4<n then none else(da (t.drop (4+n))).map (λr=>(t.drop 4).take n::r):=by
 have hp:=List.length_pos_iff.2 h;obtain⟨g,hg⟩:∃g,t.length=g+1:=⟨t.length-1,by omega⟩
 have e:da t=cH (g+1) t:=by unfold da;rw[hg]
 rw[e];unfold cH;rw[if_neg h];split
 ·rfl
 ·cases cI (t.take 4)with
  |none=>rfl
  |some n=>
   simp only;split
   ·rfl
   ·unfold da;rw[lf g (t.drop (4+n)) g (by rw[zS];omega) (by rw[zS];omega)]
end Go.Jn
namespace Go.Proofs.YtkmbmfengcdmoaaGreatDoor
open Go.RowKit Go.ay Go.Jn Go.Opn Go.Apl

theorem yy(y:ByteArray)(i j:Nat):(y.extract i j).data.toList=(y.data.toList.drop i).take (j-i):=by simp
def lR(s:ByteArray):List Value:= [.string s]
theorem Db:(Tryz.prog.info? 9).map (λi=>(i.zero,i.size,i.bytes))=some (some (.string ⟨#[]⟩),1,16):=by kernel_rfl
theorem yr(s:ByteArray):(lR s).length=1:=rfl
theorem Ik(s:ByteArray):∀u∈lR s,u.oneCell'=true:=λu hu=>by rw[vU.1 hu];rfl
def Ld(l:List ByteArray):List (List UInt8):=l.map (λb=>b.data.toList)
def vX(r:Option (List (List UInt8)))(W:World)(e:Ending)(w':World):Prop:=
 Below W.heap.size W w'/\((r=none/\e= .returned (.tuple #[.slice none 0 0, .bool false]))\/∃(p:List ByteArray) (v:Value),r=some (Ld p)/\e= .returned (.tuple #[v, .bool true])/\w'.ownsRow W.heap.size 9 1 v p.length (p.flatMap lR))
def TE(W:World)(s:List UInt8)(t rv:Value)(wr:World):Prop:=
 ∃(x:ByteArray) (p:List ByteArray),t= .string x/\Below W.heap.size W wr/\wr.ownsRow W.heap.size 9 1 rv p.length (p.flatMap lR)/\da s=(da x.data.toList).map (Ld p++ ·)/\p.length+x.size<=s.length
def MM:Value->Nat
 | .string x=>x.size
 |_=>0
set_option maxHeartbeats 4000000 in
theorem Gm(t:ByteArray)(w:World)(ht:t.size<=1000000):Calls Tryz.prog 105 #[.string t] w (vX (da t.data.toList) w):=by
 obtain⟨R,eR⟩:=x_ (vX (da t.data.toList) w)
 rw[<-eR];have hsz:t.data.toList.length=t.size:=by simp
 have FN:Hid (da t.data.toList=none->∀w',Below w.heap.size w w'->R (.returned (.tuple #[.slice none 0 0, .bool false])) w'):=λh w' hb=>by rw[eR,h];exact⟨hb, .inl ⟨rfl,rfl⟩⟩
 have FS:Hid (∀(p:List ByteArray) (v:Value) (w':World),da t.data.toList=some (Ld p)->Below w.heap.size w w'->w'.ownsRow w.heap.size 9 1 v p.length (p.flatMap lR)->R (.returned (.tuple #[v, .bool true])) w'):=λp v w' h hb ho=>by rw[eR,h];exact⟨hb, .inr ⟨p,v,rfl,rfl,ho⟩⟩
 obtain⟨s,es⟩:=x_ t.data.toList
 have HST:Hid (TE w s (.string t) (.slice none 0 0) w):=⟨t,[],rfl,Below.refl _ _,⟨by simp, .inl ⟨rfl,rfl⟩⟩,by rw[es];simp[Ld],by rw[es,hsz];simp⟩
 rw[<-es]at FN FS hsz;have HS:Hid (s.length<=1000000):=by show _<=_;omega
 clear eR es hsz;go_enter Tryz.func105,Tryz.ntmps105;go_wp2_with fail
 go_loopw [0,4] (λx rv wr=>TE w s x rv wr) (λx _ _=>MM x)
 case atStart=>exact HST.out
 case round=>
  clear HST;obtain⟨x,p,rfl,hbr,hown,hsp,hlen⟩:=hrel;have HBR:=h_ hbr;have HOW:=h_ hown;have HSP:=h_ hsp;have HLN:=h_ hlen;clear hbr hown hsp hlen;have hx1m:x.size<=1000000:=by have:=HLN.out;have:=HS.out;omega
  by_cases hx:x.size=0
  ·obtain rfl:x=⟨#[]⟩:=by have h0:x.data.toList= []:=Ky.1 (by rw[show x.data.toList.length=x.size by simp];exact hx);cases x;simpa using h0
   have F:=h_ (FS.out p u4 wr (by rw[HSP.out];show(some ([]:List (List UInt8))).map _=_;simp) HBR.out HOW.out);go_wp2_with fail;exact F.out
  ·have hne:x.data.toList≠ []:=λh=>hx (by rw[<-show x.data.toList.length=x.size by simp,h];rfl)
   have q1:(x.toList==([]:List UInt8))=false:=by rw[ByteArray.toList_eq];cases hh:x.data.toList with|nil=>exact absurd hh hne|cons _ _=>rfl
   have q2:x.toList.isEmpty=false:=by rw[ByteArray.toList_eq];cases hh:x.data.toList with|nil=>exact absurd hh hne|cons _ _=>rfl
   have q3:(x.toList= [])=False:=by rw[ByteArray.toList_eq];exact eq_false hne
   have ST:=BD hne;rw[show x.data.toList.length=x.size by simp]at ST;by_cases h4:x.size<4
   ·have F:=h_ (FN.out (by rw[HSP.out,ST,if_pos h4];rfl) wr HBR.out);have c1:decide ((x.size:Int)<4)=true:=by simp;omega
    clear ST;go_wp2_with fail;exact F.out
   ·rw[if_neg h4]at ST;have c1:decide ((x.size:Int)<4)=false:=by simp;omega
    have z4:(4:Int)<=(x.size:Int):=by omega
    have e1:(x.extract 0 4).data.toList=x.data.toList.take 4:=by simp
    have Q1:Hid (∀w,Calls Tryz.prog 169 #[.string (x.extract 0 4)] w (kr (cI (x.data.toList.take 4)) w)):=λw=>by rw[<-e1];exact su _ w (by rw[P8];omega)
    have ST:=h_ ST;clear e1;go_wp2_with fail;refine(Q1.out _).mono ?_;rintro e w' ⟨rfl,⟨h1,rfl⟩|⟨n,h1,rfl⟩⟩
    ·have F:=h_ (FN.out (by rw[HSP.out,ST.out,h1];rfl) wr HBR.out);go_wp2_with fail;exact F.out
    ·have ST2:=ST.out;rw[h1]at ST2;simp only at ST2;have hyz:(x.extract 4 x.size).size=x.size-4:=by rw[P8];omega
     have hyd:(x.extract 4 x.size).data.toList=x.data.toList.drop 4:=by simp;exact np (by simp)
     by_cases hn:n<=2000
     ·have c2:decide ((2000:Int)<(n:Int))=false:=by simp;omega
      by_cases hm:n<=x.size-4
      ·have c3:decide (((x.size-4:Nat):Int)<(n:Int))=false:=by simp;omega
       have c4:decide (x.size-4<n)=false:=by simp;omega
       rw[if_neg (by omega)]at ST2;clear ST Q1 FN FS;obtain⟨i0,hi,hz0,hz1,hz2⟩:=info_parts Db;have HI:=h_ hi;have HZ0:=h_ hz0;have HZ1:=h_ hz1;have HZ2:=h_ hz2;have c5:(n:Int)<=((x.size-4:Nat):Int):=by omega
       have ST3:=h_ ST2;clear hi hz0 hz1 hz2 ST2;go_wp2_with (at_builtin;refine dF (ec:=lR) rfl (.tmp 32) (.tmp 36) 137 rfl w.heap.size 9 i0 _ 16 Tryz.underlying137 HI.out HZ0.out HZ1.out HZ2.out rfl (by decide) yr Ik u4 p.length (p.flatMap lR) rfl (HOW.out.alloc _) (some ⟨wr.heap.size,0,none⟩) 1 [(x.extract 4 x.size).extract 0 n] rfl (cO yr (heap_alloc_new _ _) (λj u hu=>by simpa[lR]using hu)) (by have:=HLN.out;have:=HS.out;have:maxLen=9223372036854775807:=rfl;simp;omega) (by have:=HLN.out;have:=HS.out;simp;omega) (by have:=HBR.out.size;simp;omega) ?_)
       intro v2 w2 hown2 hg2 _;have HB2:Hid (Below w.heap.size w w2):=(HBR.out.alloc HBR.out.size _).grown hg2 (by have:=HBR.out.size;simp;omega) (λj e=>(HOW.out.lt j e).1);have HOWN:=h_ hown2;clear hown2 hg2;go_wp2_with fail;have zd:((x.extract 4 x.size).extract n (x.size-4)).data.toList=x.data.toList.drop (4+n):=by have a1:(x.extract 4 x.size).data.toList=x.data.toList.drop 4:=hyd;have a2:((x.extract 4 x.size).extract n (x.size-4)).data.toList=((x.extract 4 x.size).data.toList.drop n).take (x.size-4-n):=yy _ _ _;rw[a2,a1,List.drop_drop];exact np (by simp;omega)
       have zt:((x.extract 4 x.size).extract 0 n).data.toList=(x.data.toList.drop 4).take n:=by rw[yy,hyd];rfl
       have zs:((x.extract 4 x.size).extract n (x.size-4)).size=x.size-4-n:=by rw[P8,hyz];omega
       refine⟨⟨(x.extract 4 x.size).extract n (x.size-4),p++ [(x.extract 4 x.size).extract 0 n],rfl,HB2.out, ?_, ?_, ?_⟩, ?_⟩
       ·rw[fu,DU];exact HOWN.out
       ·rw[HSP.out,ST3.out,zd];cases da (x.data.toList.drop (4+n))with
        |none=>rfl
        |some r=>simp only[GK,Ld,uE,xJ,NP,zt,List.append_assoc,xC,xK]
       ·have:=HLN.out;rw[fu,zs];simp;omega
       ·show((x.extract 4 x.size).extract n (x.size-4)).size<x.size;rw[zs];omega
      ·have F:=h_ (FN.out (by rw[HSP.out,ST2,if_pos (by omega)];rfl) wr HBR.out);have c3:decide (((x.size-4:Nat):Int)<(n:Int))=true:=by simp;omega
       have c4:decide (x.size-4<n)=true:=by simp;omega
       clear ST2;go_wp2_with fail;exact F.out
     ·have F:=h_ (FN.out (by rw[HSP.out,ST2,if_pos (by omega)];rfl) wr HBR.out);have c2:decide ((2000:Int)<(n:Int))=true:=by simp;omega
      clear ST2;go_wp2_with fail;exact F.out
end Go.Proofs.YtkmbmfengcdmoaaGreatDoor
namespace Go.Proofs.YtkmbmfengcdmoaaGreatDoor
open Go.RowKit Go.ay Go.Jn
theorem jl(w:World):Calls Tryz.prog 189 #[.int .i64 0] w λe w'=>e= .returned (.tuple #[])/\w=w':=by
 obtain⟨R,eR⟩:=x_ (λe w'=>e= .returned (.tuple #[])/\w=w':Ending->World->Prop)
 rw[<-eR];have F:Hid (R (.returned (.tuple #[])) w):=by rw[eR];exact⟨rfl,rfl⟩
 clear eR;go_enter Tryz.func189,Tryz.ntmps189;go_wp2_with fail;first
  |exact F.out
  |exact⟨_,rfl,rfl,F.out⟩
  |exact⟨_,rfl,F.out⟩
  |exact bodyPost_ret (results_none rfl _ _ _) rfl F.out
open Go.Dk Go.Mp
theorem IW{w:World}{jb b bs bm n:Nat}{pv:Value}{d:DD}(hj:w.cell? ⟨jb,5,none⟩=some (.pointer (some ⟨b,0,none⟩)))(h:aI w b bs bm pv d n)(s:Int)(hr:(DD.read n d s).2=0):
  Calls Tryz.prog 166 #[.pointer (some ⟨jb,0,none⟩), .int .i64 s] w λe w'=>e= .returned (.string ⟨(DD.read n d s).1.toArray⟩)/\w=w':=by
 have R1:=h_ (oW h s);have C1:=h_ (jl w);rw[hr]at R1;obtain⟨x,ex⟩:=x_ (⟨(DD.read n d s).1.toArray⟩:ByteArray)
 rw[<-ex]at R1⊢;obtain⟨R,eR⟩:=x_ (λe w'=>e= .returned (.string x)/\w=w':Ending->World->Prop)
 rw[<-eR];have F:Hid (R (.returned (.string x)) w):=by rw[eR];exact⟨rfl,rfl⟩
 clear eR ex hr h;go_enter Tryz.func166,Tryz.ntmps166;go_wp2_with fail;refine R1.out.mono ?_;rintro e w' ⟨rfl,rfl⟩;go_wp2_with fail;refine C1.out.mono ?_;rintro e w' ⟨rfl,rfl⟩;go_wp2_with fail;first
  |exact F.out
  |exact⟨_,rfl,rfl,F.out⟩
  |exact⟨_,rfl,F.out⟩
end Go.Proofs.YtkmbmfengcdmoaaGreatDoor
