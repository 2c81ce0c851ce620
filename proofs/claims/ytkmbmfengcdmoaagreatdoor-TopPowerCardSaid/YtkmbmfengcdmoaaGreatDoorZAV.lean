/- Package journal: read of a sector that the disk gives. -/
import Derived.Test.YtkmbmfengcdmoaaGreatDoorZAU
import Derived.Test.YtkmbmfengcdmoaaGreatDoorZAE
import Derived.Test.YtkmbmfengcdmoaaGreatDoorZAF
import Derived.Test.YtkmbmfengcdmoaaGreatDoorZAA
import Derived.OwnWalk
import Derived.Laws.MakeOwn
import Derived.Test.YtkmbmfengcdmoaaGreatDoorZAR
set_option linter.all false
set_option maxRecDepth 100000
namespace Go.Jn
open Go Go.Dk
def nc(d:DD):List UInt8:=pL d.st d.aF
theorem xR{n:Nat}{st:List UInt8}(a:st.length=32*n):∀(p:List (Nat×List UInt8)),(∀x∈p,x.1<n/\x.2.length=32)->(pL st p).length=32*n:=by
 intro p;unfold pL;induction p generalizing st with
 |nil=>intro _;exact a
 |cons x p ih=>intro h;rw[RY];obtain⟨c,d⟩:=h x (by simp);exact ih (by rw[fI _ _ _ (by omega)];exact a) (λy b=>h y (by simp[b]))
theorem DD.Ok.cF{n:Nat}{d:DD}(h:d.Ok n):∀x∈d.aF,x.1<n/\x.2.length=32:=λx b=>by
 obtain⟨i,a⟩:=NQ.1 b;exact h.sec i x a
theorem mD{n:Nat}{d:DD}(h:d.Ok n):(nc d).length=32*n:=xR h.len _ (DD.Ok.cF h)
theorem Lx{d:DD}(h:d.aF= []):nc d=d.st:=by unfold nc;rw[h];rfl
theorem MI{n:Nat}{st:List UInt8}(g:st.length=32*n)(s:Nat):∀(m:Nat) (p:List (Nat×List UInt8)),p.length=m->(∀x∈p,x.1<n/\x.2.length=32)->
  sec (pL st p) s=match fR p (s:Int)with
   |some j=>((p[j.toNat]?).map (·.2)).getD []
   |none=>sec st s:=by
 intro m;induction m with
 |zero=>intro p a _;obtain rfl:=Ky.1 a;rfl
 |succ m ih=>
  intro p a h;rcases List.eq_nil_or_concat p with rfl|⟨q,x,rfl⟩
  ·simp at a
  ·rw[List.concat_eq_append]at a h⊢;have l:q.length=m:=by simpa using a
   have b:∀y∈q,y.1<n/\y.2.length=32:=λy c=>h y (by simp[c])
   obtain⟨r,o⟩:=h x (by simp);have i:=xR g q b;rw[pN,qP];show _=match (if(s:Int)=(x.1:Int)then some ((q.length:Nat):Int)else fR q (s:Int))with
    |some j=>((((q++ [x]))[j.toNat]?).map (λy:Nat×List UInt8=>y.2)).getD []
    |none=>sec st s
   by_cases e:(s:Int)=(x.1:Int)
   ·have d:s=x.1:=by omega
    rw[if_pos e,d,iQ o (by omega)];simp
   ·rw[if_neg e,ia (by omega) (by omega),ih q l b];cases hl2:fR q (s:Int)with
    |none=>rfl
    |some j=>obtain⟨k,y,rfl,c,_⟩:=lX hl2;have f:=(jS.1 c).1;simp only[tZ];rw[xL f]
theorem Kk{n:Nat}{d:DD}(h:d.Ok n)(s:Nat):d.text s=sec (nc d) s:=by unfold nc;rw[MI h.len s _ d.aF rfl (DD.Ok.cF h)];rfl
theorem LM{n s:Nat}(h:s<n):DD.hasB n (s:Int)=true:=by unfold DD.hasB;simp;omega
theorem tD{n:Nat}{d:DD}(h:d.Ok n)(a:d.on=true){s:Nat}(b:s<n):d.read n (s:Int)=(sec (nc d) s,0):=by unfold DD.read;rw[if_pos a,if_pos (LM b),tZ,Kk h s]
structure JS where
 d:DD
 v:Nat×Nat×Nat
 a:Nat
 bW:List (List UInt8)
 broken:Bool
def JS.append(n:Nat)(s:JS)(b:List UInt8):JS×Int:=
 if s.broken then(s,13)else
 if 2000<b.length then(s,3)else
 if 32*((n-2) / 2)<s.v.2.2+(4+b.length)\/s.v.1=999999999 then(s,19)else
 if(cy n s.a s.v.1 s.v.2.1 s.v.2.2 (bR b) s.d).2=0 then
  ({d:=(cy n s.a s.v.1 s.v.2.1 s.v.2.2 (bR b) s.d).1,v:=(s.v.1+1,s.v.2.1,s.v.2.2+(bR b).length),a:=1-s.a,bW:=s.bW++ [b],broken:=false},0)
 else({s with d:=(cy n s.a s.v.1 s.v.2.1 s.v.2.2 (bR b) s.d).1,broken:=true},(cy n s.a s.v.1 s.v.2.1 s.v.2.2 (bR b) s.d).2)
def dR(n:Nat)(d:DD):Int×Option ((Nat×Nat×Nat)×Nat×List (List UInt8)):=
 if d.on=false then(21,none)else
 if n<4 then(1,none)else
 match dp (sec (nc d) 0) (sec (nc d) 1) (32*((n-2) / 2))with
 |none=>(20,none)
 |some (v,a)=>match da (half (nc d) ((n-2) / 2) v.2.1 v.2.2)with
  |none=>(20,none)
  |some r=>(0,some (v,a,r))
theorem th{n:Nat}{d:DD}{v:Nat×Nat×Nat}{a:Nat}{r:List (List UInt8)}(b:d.on=true)(c:4<=n)(h:Found n (nc d) v a r):dR n d=(0,some (v,a,r)):=by unfold dR;rw[if_neg (by rw[b];decide),if_neg (by omega),h.mY];simp only;rw[h.split]
theorem AH{n:Nat}{d:DD}{v:Nat×Nat×Nat}{a:Nat}{r:List (List UInt8)}{c:Int}(h:dR n d=(c,some (v,a,r))):c=0/\d.on=true/\4<=n/\Found n (nc d) v a r:=by
 unfold dR at h;split at h
 ·cases h
 ·rename_i e;split at h
  ·cases h
  ·rename_i i;split at h
   ·cases h
   ·rename_i u b f;split at h
    ·cases h
    ·rename_i q g;cases h
     exact⟨rfl,by simpa using e,by omega,f,g⟩
end Go.Jn
namespace Go.Proofs.YtkmbmfengcdmoaaGreatDoor
open Go.RowKit Go.ay Go.Jn
def Hq(t:ByteArray)(k:Nat):Int:=if h:k<t.size then((t[k]'h).toNat:Int)else 0
theorem Hr(t:ByteArray):∀(n:Nat) (h:n<t.size),((t[n]'h).toNat:Int)=Hq t n:=λn h=>by unfold Hq;rw[dif_pos h]
def kr(r:Option Nat)(w:World)(e:Ending)(w':World):Prop:=
 w=w'/\((r=none/\e= .returned (.tuple #[.int .i64 0, .bool false]))\/∃n:Nat,r=some n/\e= .returned (.tuple #[.int .i64 (n:Int), .bool true]))
def SF(s:List UInt8)(a i:Value):Prop:=∃k m:Nat,k<=s.length/\i= .int .i64 (k:Int)/\a= .int .i64 (m:Int)/\m<10 ^ k/\cI s=jm (s.drop k) m
theorem su(t:ByteArray)(w:World)(U:t.size<=16):Calls Tryz.prog 169 #[.string t] w (kr (cI t.data.toList) w):=by
 obtain⟨R,j⟩:=x_ (kr (cI t.data.toList) w)
 rw[<-j];have e:t.data.toList.length=t.size:=by simp
 have o:Hid (cI t.data.toList=none->R (.returned (.tuple #[.int .i64 0, .bool false])) w):=λh=>by rw[j,h];exact⟨rfl, .inl ⟨rfl,rfl⟩⟩
 have B:Hid (∀n:Nat,cI t.data.toList=some n->R (.returned (.tuple #[.int .i64 (n:Int), .bool true])) w):=λn h=>by rw[j,h];exact⟨rfl, .inr ⟨n,rfl,rfl⟩⟩
 obtain⟨s,u⟩:=x_ t.data.toList
 have f:Hid (SF s (.int .i64 0) (.int .i64 0)):=⟨0,0,gu _,rfl,rfl,by decide,rfl⟩
 rw[<-u]at o B e;have HS:=h_ e;have J:=h_ u;clear j u e;go_enter Tryz.func169,Tryz.ntmps169;go_wp2_with fail
 go_loop [4,8] (λa i=>SF s a i) (λ_ i=>t.size- (intOf i).toNat)
 case atStart=>exact f.out
 case round=>
  clear f;obtain⟨k,m,P,rfl,rfl,hm,G⟩:=hrel;have C:=h_ G;have D:=h_ hm;rw[HS.out]at P;clear G hm;by_cases d:k<t.size
  ·have O:=Hr t;have S:(k:Int)<(t.size:Int):=by omega
   have Q:(0:Int)<=(k:Int):=by omega
   have H:m<1000000000000000:=nX D.out (Nat.pow_le_pow_right (n:=10) (by decide) (show k<=15 by omega));obtain⟨c,l⟩:∃c,s[k]? =some c:=⟨_,eH (by rw[HS.out];exact d)⟩
   have v:Hq t k=(c.toNat:Int):=by
    rw[<-O k d]
    have:s[k]? =some (t[k]'d):=by rw[J.out];simp[d];rfl
    rw[this]at l;cases l;rfl
   have g:s.drop k=c::s.drop (k+1):=by obtain⟨M,N⟩:=jS.1 l;rw[List.drop_eq_getElem_cons M,N]
   have b:=C.out;rw[g]at b;unfold jm at b;have x:c.toNat<=255:=by have:=c.toNat_lt;omega
   obtain⟨q,E⟩:=x_ c.toNat
   rw[<-E]at v b x;clear l g E;by_cases z:48<=q
   ·by_cases A:q<=57
    ·rw[if_pos ⟨z,A⟩]at b;have p:=h_ b;clear b;have I:decide ((q:Int)<48)=false:=by simp;omega
     have T:decide ((57:Int)<(q:Int))=false:=by simp;omega
     have V:IntKind.u8.wrap ((q:Int)-48)=((q-48:Nat):Int):=by rw[IntKind.wrap_u8];omega
     have W:IntKind.i64.wrap (((q-48:Nat):Int))=((q-48:Nat):Int):=by rw[IntWalk.i64_left];exact IntWalk.wrap64_in _ ⟨by omega,by omega⟩
     have X:IntKind.i64.wrap (10*(m:Int))=((10*m:Nat):Int):=by rw[IntWalk.i64_left,IntWalk.wrap64_in _ ⟨by omega,by omega⟩];omega
     have Y:IntKind.i64.wrap (((10*m:Nat):Int)+((q-48:Nat):Int))=((10*m+(q-48):Nat):Int):=by rw[IntWalk.i64_left,IntWalk.wrap64_in _ ⟨by omega,by omega⟩];omega
     have Z:IntKind.i64.wrap ((k:Int)+1)=((k+1:Nat):Int):=by rw[IntWalk.i64_left,IntWalk.wrap64_in _ ⟨by omega,by omega⟩];omega
     have r:Hid (SF s (.int .i64 ((10*m+(q-48):Nat):Int)) (.int .i64 ((k+1:Nat):Int))):=⟨k+1,_,by rw[HS.out];omega,rfl,rfl,by have:=D.out;rw[GL];omega,p.out⟩
     go_wp2_with fail;have K:(10*(m:Int)+((q-48:Nat):Int))=((10*m+(q-48):Nat):Int):=by omega
     have L:((k:Int)+1)=((k+1:Nat):Int):=by omega
     rw[K,L];refine⟨r.out, ?_⟩;show t.size- (((k+1:Nat):Int)).toNat<t.size- ((k:Nat):Int).toNat;omega
    ·rw[if_neg (by omega)]at b;have F:=h_ (o.out b);clear b;have I:decide ((q:Int)<48)=false:=by simp;omega
     have T:decide ((57:Int)<(q:Int))=true:=by simp;omega
     go_wp2_with fail;exact F.out
   ·rw[if_neg (by omega)]at b;have F:=h_ (o.out b);clear b;have I:decide ((q:Int)<48)=true:=by simp;omega
    go_wp2_with fail;exact F.out
  ·have y:k=t.size:=by omega
   have F:Hid (R (.returned (.tuple #[.int .i64 (m:Int), .bool true])) w):=B.out m (by rw[C.out,List.drop_eq_nil_of_le (by rw[HS.out];omega)];rfl);subst y;go_wp2_with fail;exact F.out
theorem sP(w:World):Calls Tryz.prog 168 #[] w λe w'=>e= .returned (.string (tx (List.replicate 32 0)))/\Below w.heap.size w w':=by
 have b:Hid (∀w,Calls Tryz.prog 223 #[.string ⟨#[0]⟩, .int .i64 32] w λe w'=>e= .returned (.string (tx (List.replicate 32 0)))/\Below w.heap.size w w'):=λw=>by
  have:=Tryz.strings_Repeat ⟨#[0]⟩ 32 w (by omega) (by show 1*32<=_;omega);exact this
 go_enter Tryz.func168,Tryz.ntmps168;go_wp2_with fail;refine(b.out _).mono ?_;rintro e c ⟨rfl,a⟩;go_wp2_with fail;go_ret;exact⟨rfl,a⟩
theorem aB{P:Program}{fn:Func}{p u:Tmp}{ty:TypeId}{v:Value}(h:fn.results= #[.cell p ty, .tmp u])(tmps:Array Value)(w:World)(g:Nat)(t:TypeId)(cs:Array Value)(c:Nat×Nat)(d:TypeDesc)
  (j:tmps.getD p undef= .pointer (some ⟨g,0,none⟩)) (f:w.heap[g]? =some (.cells cs t c))
  (k:P.underlying ty=some d) (e:(match d with| .struct _| .array _ _=>true|_=>false)=true) (i:(P.info? ty).map (·.size)=some cs.size) (hv:tmps.getD u undef=v):
  (results fn tmps).run P w= .ok (.tuple #[.agg cs,v]) w:=by
 have a:tmps[p]?.getD undef= .pointer (some ⟨g,0,none⟩):=by simpa using j
 have b:tmps[u]?.getD undef=v:=by simpa using hv
 simp[results,h,a,b,asAddr,run_loadVar_row w g t ty cs c d f k e i]
def nQ(a b c:Nat):Value:= .agg #[.int .i64 (a:Int), .int .i64 (b:Int), .int .i64 (c:Int)]
def vW(r:Option (Nat×Nat×Nat))(w:World)(e:Ending)(w':World):Prop:=
 Below w.heap.size w w'/\((r=none/\e= .returned (.tuple #[nQ 0 0 0, .bool false]))\/∃v:Nat×Nat×Nat,r=some v/\e= .returned (.tuple #[nQ v.1 v.2.1 v.2.2, .bool true]))
theorem AU(t:ByteArray)(room:Nat)(w:World)(hr:room<=999999999)(ht:t.size<=1000000):
  Calls Tryz.prog 167 #[.string t, .int .i64 (room:Int)] w (vW (bN t.data.toList room) w):=by
 obtain⟨R,S⟩:=x_ (vW (bN t.data.toList room) w)
 rw[<-S];have X:t.data.toList.length=t.size:=by simp
 have x:Hid (bN t.data.toList room=none->∀n,Below w.heap.size w n->R (.returned (.tuple #[nQ 0 0 0, .bool false])) n):=λh n I=>by rw[S,h];exact⟨I, .inl ⟨rfl,rfl⟩⟩
 have Q:Hid (∀v:Nat×Nat×Nat,bN t.data.toList room=some v->∀n,Below w.heap.size w n->R (.returned (.tuple #[nQ v.1 v.2.1 v.2.2, .bool true])) n):=λv h n I=>by rw[S,h];exact⟨I, .inr ⟨v,rfl,rfl⟩⟩
 have P:Hid (∀(u:ByteArray) (w:World),u.size<=16->Calls Tryz.prog 169 #[.string u] w (kr (cI u.data.toList) w)):=λu w h=>su u w h
 clear S;have g2:∀a b c:Nat,(Tryz.prog.info? 187).map (·.size)=some (#[Value.int .i64 (a:Int), .int .i64 (b:Int), .int .i64 (c:Int)]:Array Value).size:=λa b c=>by kernel_rfl
 have Z:∀a b c:Nat,(#[Value.int .i64 (a:Int), .int .i64 (b:Int), .int .i64 (c:Int)].all (·.oneCell'))=true:=λa b c=>by simp[Value.oneCell']
 have C:=h_ g2;have B:=h_ Z;clear Z g2;by_cases U:t.size=32
 ·have t1:((t.size:Int)==32)=true:=by simp;omega
  have t2:((t.size:Int) !=32)=false:=by simp;omega
  have an:(16:Int)<=(t.size:Int):=by omega
  obtain⟨s,G⟩:=x_ t.data.toList
  obtain⟨E,T⟩:=x_ (((t.extract 0 16).toList==(t.extract 16 32).toList))
  have H:E=decide (s.take 16=s.drop 16):=by
   rw[T,ByteArray.toList_eq,ByteArray.toList_eq];have J:(t.extract 0 16).data.toList=s.take 16:=by rw[G];simp
   have e2:(t.extract 16 32).data.toList=s.drop 16:=by rw[G];simp;exact np (by simp;omega)
   rw[J,e2,Px];simp
  have x1:(t.extract 0 9).data.toList=s.take 9:=by rw[G];simp
  have x2:(t.extract 9 10).data.toList=(s.take 10).drop 9:=by rw[G];simp[List.drop_take]
  have x3:(t.extract 10 16).data.toList=(s.take 16).drop 10:=by rw[G];simp[List.drop_take]
  have m:s.length=32:=by rw[G,X,U]
  rw[<-G]at x Q;have F0:=h_ (fun(h:E=false)=>x.out (by unfold bN;rw[if_neg (by rw[H]at h;simp at h;exact λhh=>h hh.2)]));have F1:=h_ (fun(h:E=true) (f:cI (s.take 9)=none)=>x.out (by unfold bN;rw[if_pos ⟨m,by rw[H]at h;simpa using h⟩,f]));have F2:=h_ (fun(h:E=true) (a:Nat) (f:cI (s.take 9)=some a) (i:cI ((s.take 10).drop 9)=none)=>x.out (by unfold bN;rw[if_pos ⟨m,by rw[H]at h;simpa using h⟩,f];simp only;rw[i]));have F3:=h_ (fun(h:E=true) (a b:Nat) (f:cI (s.take 9)=some a) (i:cI ((s.take 10).drop 9)=some b) (o: ¬b<=1)=>x.out (by unfold bN;rw[if_pos ⟨m,by rw[H]at h;simpa using h⟩,f];simp only;rw[i];simp only;rw[if_neg o]));have F4:=h_ (fun(h:E=true) (a b:Nat) (f:cI (s.take 9)=some a) (i:cI ((s.take 10).drop 9)=some b) (o:b<=1) (h4:cI ((s.take 16).drop 10)=none)=>x.out (by unfold bN;rw[if_pos ⟨m,by rw[H]at h;simpa using h⟩,f];simp only;rw[i];simp only;rw[if_pos o,h4]));have F5:=h_ (fun(h:E=true) (a b c:Nat) (f:cI (s.take 9)=some a) (i:cI ((s.take 10).drop 9)=some b) (o:b<=1) (h4:cI ((s.take 16).drop 10)=some c) (h5: ¬c<=room)=>x.out (by unfold bN;rw[if_pos ⟨m,by rw[H]at h;simpa using h⟩,f];simp only;rw[i];simp only;rw[if_pos o,h4];simp only;rw[if_neg h5]));have F6:=h_ (fun(h:E=true) (a b c:Nat) (f:cI (s.take 9)=some a) (i:cI ((s.take 10).drop 9)=some b) (o:b<=1) (h4:cI ((s.take 16).drop 10)=some c) (h5:c<=room)=>Q.out (a,b,c) (by unfold bN;rw[if_pos ⟨m,by rw[H]at h;simpa using h⟩,f];simp only;rw[i];simp only;rw[if_pos o,h4];simp only;rw[if_pos h5]));have Q1:Hid (∀w,Calls Tryz.prog 169 #[.string (t.extract 0 9)] w (kr (cI (s.take 9)) w)):=λw=>by rw[<-x1];exact P.out _ w (by rw[P8];omega)
  have Q2:Hid (∀w,Calls Tryz.prog 169 #[.string (t.extract 9 10)] w (kr (cI ((s.take 10).drop 9)) w)):=λw=>by rw[<-x2];exact P.out _ w (by rw[P8];omega)
  have Q3:Hid (∀w,Calls Tryz.prog 169 #[.string (t.extract 10 16)] w (kr (cI ((s.take 16).drop 10)) w)):=λw=>by rw[<-x3];exact P.out _ w (by rw[P8];omega)
  have EE:=h_ T;clear x Q P x1 x2 x3 H G m T;go_enter Tryz.func167,Tryz.ntmps167;go_wp2_with fail;obtain⟨V,z⟩:=x_ (w.alloc (.cells #[.int .i64 0, .int .i64 0, .int .i64 0] 187))
  have q:Hid (Below w.heap.size w V):=by rw[z];exact(Below.refl _ w).alloc (aL _) _
  have K:ay V w.heap.size [.int .i64 0, .int .i64 0, .int .i64 0] 187:=by rw[z];exact ay.new w _ _
  rw[<-z];clear z;refine Free.ai 10 [] (λy=>Below V.heap.size V y/\True) (by kernel_rfl) (by kernel_rfl) (Free.aW (λj mk r W=>by cases W)) ⟨(Below.refl _ _).drew,trivial⟩ (λ_ _ h g=>⟨h.1.trans (Below.mono g h.1.size),trivial⟩) ?_;simp only[eJ,dT];iterate 9 (apply Free.ae (Free.wq rfl) rfl;(intro n N M;obtain⟨O,_⟩:=N;clear M O;go_light;go_simp<;>rfl);(try simp only[Pt]))
  rw[<-EE.out];iterate 1 (apply Free.ae (Free.wq rfl) rfl;(intro n N M;obtain⟨O,_⟩:=N;clear M O;go_light;go_simp<;>rfl);(try simp only[Pt]))
  apply Free.ax;intro A k _ _;simp only[fm,fo];have L:=h_ (q.out.trans (k.1.mono q.out.size));have HR:=h_ (K.below k.1 K.lt);clear k K;obtain⟨E1,J⟩:=x_ E
  rw[<-J];cases E1 with
  |false=>
   have D:=h_ J.symm;clear J;have F:=h_ (F0.out D.out);go_wp2_with (refine wpList_store_row rfl 187 (.tmp 4) (.tmp 20) rfl w.heap.size #[.int .i64 ((0:Nat):Int), .int .i64 ((0:Nat):Int), .int .i64 ((0:Nat):Int)] rfl rfl 187 #[.int .i64 0, .int .i64 0, .int .i64 0] HR.out (C.out 0 0 0) rfl (B.out 0 0 0) ?_)
   have d:=setRow_heap A w.heap.size #[.int .i64 0, .int .i64 0, .int .i64 0] #[.int .i64 ((0:Nat):Int), .int .i64 ((0:Nat):Int), .int .i64 ((0:Nat):Int)] 187 (0,0) HR.out;refine bodyPost_ret (v:= .tuple #[nQ 0 0 0, .bool false]) (aB (fn:=Tryz.f167) (p:=4) (u:=5) (ty:=187) rfl _ _ w.heap.size 187 #[.int .i64 ((0:Nat):Int), .int .i64 ((0:Nat):Int), .int .i64 ((0:Nat):Int)] (0,0) _ rfl d Tryz.underlying187 rfl (by kernel_rfl) rfl) rfl ?_;refine F.out _ (L.out.grown (row:=some w.heap.size) ⟨rfl,rfl,rfl,by simp[World.setRow],λg _ l=> ?_⟩ L.out.size (λj e=>by cases e;omega));simp only[World.setRow,vS];rw[if_neg (λe=>l (by rw[e]))]
  |true=>
   have D:=h_ J.symm;clear J;go_wp2_with fail;refine(Q1.out _).mono ?_;rintro e n ⟨rfl,⟨f,rfl⟩|⟨a,f,rfl⟩⟩
   ·have F:=h_ (F1.out D.out f);go_wp2_with (refine wpList_store_row rfl 187 (.tmp 4) (.tmp 29) rfl w.heap.size #[.int .i64 ((0:Nat):Int), .int .i64 ((0:Nat):Int), .int .i64 ((0:Nat):Int)] rfl rfl 187 #[.int .i64 0, .int .i64 0, .int .i64 0] HR.out (C.out 0 0 0) rfl (B.out 0 0 0) ?_)
    have d:=setRow_heap A w.heap.size #[.int .i64 0, .int .i64 0, .int .i64 0] #[.int .i64 ((0:Nat):Int), .int .i64 ((0:Nat):Int), .int .i64 ((0:Nat):Int)] 187 (0,0) HR.out;refine bodyPost_ret (v:= .tuple #[nQ 0 0 0, .bool false]) (aB (fn:=Tryz.f167) (p:=4) (u:=5) (ty:=187) rfl _ _ w.heap.size 187 #[.int .i64 ((0:Nat):Int), .int .i64 ((0:Nat):Int), .int .i64 ((0:Nat):Int)] (0,0) _ rfl d Tryz.underlying187 rfl (by kernel_rfl) rfl) rfl ?_;refine F.out _ (L.out.grown (row:=some w.heap.size) ⟨rfl,rfl,rfl,by simp[World.setRow],λg _ l=> ?_⟩ L.out.size (λj e=>by cases e;omega));simp only[World.setRow,vS];rw[if_neg (λe=>l (by rw[e]))]
   ·go_wp2_with fail;refine(Q2.out _).mono ?_;rintro e n ⟨rfl,⟨i,rfl⟩|⟨b,i,rfl⟩⟩
    ·have F:=h_ (F2.out D.out a f i);go_wp2_with (refine wpList_store_row rfl 187 (.tmp 4) (.tmp 42) rfl w.heap.size #[.int .i64 ((0:Nat):Int), .int .i64 ((0:Nat):Int), .int .i64 ((0:Nat):Int)] rfl rfl 187 #[.int .i64 0, .int .i64 0, .int .i64 0] HR.out (C.out 0 0 0) rfl (B.out 0 0 0) ?_)
     have d:=setRow_heap A w.heap.size #[.int .i64 0, .int .i64 0, .int .i64 0] #[.int .i64 ((0:Nat):Int), .int .i64 ((0:Nat):Int), .int .i64 ((0:Nat):Int)] 187 (0,0) HR.out;refine bodyPost_ret (v:= .tuple #[nQ 0 0 0, .bool false]) (aB (fn:=Tryz.f167) (p:=4) (u:=5) (ty:=187) rfl _ _ w.heap.size 187 #[.int .i64 ((0:Nat):Int), .int .i64 ((0:Nat):Int), .int .i64 ((0:Nat):Int)] (0,0) _ rfl d Tryz.underlying187 rfl (by kernel_rfl) rfl) rfl ?_;refine F.out _ (L.out.grown (row:=some w.heap.size) ⟨rfl,rfl,rfl,by simp[World.setRow],λg _ l=> ?_⟩ L.out.size (λj e=>by cases e;omega));simp only[World.setRow,vS];rw[if_neg (λe=>l (by rw[e]))]
    ·by_cases I:b<=1
     ·have tb:decide ((1:Int)<(b:Int))=false:=by simp;omega
      go_wp2_with fail;refine(Q3.out _).mono ?_;rintro e n ⟨rfl,⟨o,rfl⟩|⟨c,o,rfl⟩⟩
      ·have F:=h_ (F4.out D.out a b f i I o);go_wp2_with (refine wpList_store_row rfl 187 (.tmp 4) (.tmp 56) rfl w.heap.size #[.int .i64 ((0:Nat):Int), .int .i64 ((0:Nat):Int), .int .i64 ((0:Nat):Int)] rfl rfl 187 #[.int .i64 0, .int .i64 0, .int .i64 0] HR.out (C.out 0 0 0) rfl (B.out 0 0 0) ?_)
       have d:=setRow_heap A w.heap.size #[.int .i64 0, .int .i64 0, .int .i64 0] #[.int .i64 ((0:Nat):Int), .int .i64 ((0:Nat):Int), .int .i64 ((0:Nat):Int)] 187 (0,0) HR.out;refine bodyPost_ret (v:= .tuple #[nQ 0 0 0, .bool false]) (aB (fn:=Tryz.f167) (p:=4) (u:=5) (ty:=187) rfl _ _ w.heap.size 187 #[.int .i64 ((0:Nat):Int), .int .i64 ((0:Nat):Int), .int .i64 ((0:Nat):Int)] (0,0) _ rfl d Tryz.underlying187 rfl (by kernel_rfl) rfl) rfl ?_;refine F.out _ (L.out.grown (row:=some w.heap.size) ⟨rfl,rfl,rfl,by simp[World.setRow],λg _ l=> ?_⟩ L.out.size (λj e=>by cases e;omega));simp only[World.setRow,vS];rw[if_neg (λe=>l (by rw[e]))]
      ·by_cases hc:c<=room
       ·have F:=h_ (F6.out D.out a b c f i I o hc);have tc:decide ((room:Int)<(c:Int))=false:=by simp;omega
        have Y:decide (room<c)=false:=by simp;omega
        go_wp2_with (refine wpList_store_row rfl 187 (.tmp 4) (.tmp 60) rfl w.heap.size #[.int .i64 ((a:Nat):Int), .int .i64 ((b:Nat):Int), .int .i64 ((c:Nat):Int)] rfl rfl 187 #[.int .i64 0, .int .i64 0, .int .i64 0] HR.out (C.out a b c) rfl (B.out a b c) ?_)
        have d:=setRow_heap A w.heap.size #[.int .i64 0, .int .i64 0, .int .i64 0] #[.int .i64 ((a:Nat):Int), .int .i64 ((b:Nat):Int), .int .i64 ((c:Nat):Int)] 187 (0,0) HR.out;refine bodyPost_ret (v:= .tuple #[nQ a b c, .bool true]) (aB (fn:=Tryz.f167) (p:=4) (u:=5) (ty:=187) rfl _ _ w.heap.size 187 #[.int .i64 ((a:Nat):Int), .int .i64 ((b:Nat):Int), .int .i64 ((c:Nat):Int)] (0,0) _ rfl d Tryz.underlying187 rfl (by kernel_rfl) rfl) rfl ?_;refine F.out _ (L.out.grown (row:=some w.heap.size) ⟨rfl,rfl,rfl,by simp[World.setRow],λg _ l=> ?_⟩ L.out.size (λj e=>by cases e;omega));simp only[World.setRow,vS];rw[if_neg (λe=>l (by rw[e]))]
       ·have F:=h_ (F5.out D.out a b c f i I o hc);have tc:decide ((room:Int)<(c:Int))=true:=by simp;omega
        have Y:decide (room<c)=true:=by simp;omega
        go_wp2_with (refine wpList_store_row rfl 187 (.tmp 4) (.tmp 56) rfl w.heap.size #[.int .i64 ((0:Nat):Int), .int .i64 ((0:Nat):Int), .int .i64 ((0:Nat):Int)] rfl rfl 187 #[.int .i64 0, .int .i64 0, .int .i64 0] HR.out (C.out 0 0 0) rfl (B.out 0 0 0) ?_)
        have d:=setRow_heap A w.heap.size #[.int .i64 0, .int .i64 0, .int .i64 0] #[.int .i64 ((0:Nat):Int), .int .i64 ((0:Nat):Int), .int .i64 ((0:Nat):Int)] 187 (0,0) HR.out;refine bodyPost_ret (v:= .tuple #[nQ 0 0 0, .bool false]) (aB (fn:=Tryz.f167) (p:=4) (u:=5) (ty:=187) rfl _ _ w.heap.size 187 #[.int .i64 ((0:Nat):Int), .int .i64 ((0:Nat):Int), .int .i64 ((0:Nat):Int)] (0,0) _ rfl d Tryz.underlying187 rfl (by kernel_rfl) rfl) rfl ?_;refine F.out _ (L.out.grown (row:=some w.heap.size) ⟨rfl,rfl,rfl,by simp[World.setRow],λg _ l=> ?_⟩ L.out.size (λj e=>by cases e;omega));simp only[World.setRow,vS];rw[if_neg (λe=>l (by rw[e]))]
     ·have F:=h_ (F3.out D.out a b f i I);have tb:decide ((1:Int)<(b:Int))=true:=by simp;omega
      go_wp2_with (refine wpList_store_row rfl 187 (.tmp 4) (.tmp 42) rfl w.heap.size #[.int .i64 ((0:Nat):Int), .int .i64 ((0:Nat):Int), .int .i64 ((0:Nat):Int)] rfl rfl 187 #[.int .i64 0, .int .i64 0, .int .i64 0] HR.out (C.out 0 0 0) rfl (B.out 0 0 0) ?_)
      have d:=setRow_heap A w.heap.size #[.int .i64 0, .int .i64 0, .int .i64 0] #[.int .i64 ((0:Nat):Int), .int .i64 ((0:Nat):Int), .int .i64 ((0:Nat):Int)] 187 (0,0) HR.out;refine bodyPost_ret (v:= .tuple #[nQ 0 0 0, .bool false]) (aB (fn:=Tryz.f167) (p:=4) (u:=5) (ty:=187) rfl _ _ w.heap.size 187 #[.int .i64 ((0:Nat):Int), .int .i64 ((0:Nat):Int), .int .i64 ((0:Nat):Int)] (0,0) _ rfl d Tryz.underlying187 rfl (by kernel_rfl) rfl) rfl ?_;refine F.out _ (L.out.grown (row:=some w.heap.size) ⟨rfl,rfl,rfl,by simp[World.setRow],λg _ l=> ?_⟩ L.out.size (λj e=>by cases e;omega));simp only[World.setRow,vS];rw[if_neg (λe=>l (by rw[e]))]
 ·have F:=h_ (x.out (by unfold bN;rw[if_neg (by omega)]));have t1:((t.size:Int)==32)=false:=by simp;omega
  have t2:((t.size:Int) !=32)=true:=by simp;omega
  clear x Q;go_enter Tryz.func167,Tryz.ntmps167;go_wp2_with fail;obtain⟨V,z⟩:=x_ (w.alloc (.cells #[.int .i64 0, .int .i64 0, .int .i64 0] 187))
  have q:Hid (Below w.heap.size w V):=by rw[z];exact(Below.refl _ w).alloc (aL _) _
  have K:ay V w.heap.size [.int .i64 0, .int .i64 0, .int .i64 0] 187:=by rw[z];exact ay.new w _ _
  rw[<-z];clear z;refine Free.ai 10 [] (λy=>Below V.heap.size V y/\True) (by kernel_rfl) (by kernel_rfl) (Free.aW (λj mk r W=>by cases W)) ⟨(Below.refl _ _).drew,trivial⟩ (λ_ _ h g=>⟨h.1.trans (Below.mono g h.1.size),trivial⟩) ?_;simp only[eJ,dT];iterate 10 (first|(apply Free.dw (by exact fk rfl rfl rfl rfl);simp only[Pt])|(apply Free.ae (Free.wq rfl) rfl;(intro n N M;obtain⟨O,_⟩:=N;clear M O;go_light;go_simp<;>rfl);(try simp only[Pt])))
  apply Free.ax;intro A k _ _;simp only[fm,fo];have L:=h_ (q.out.trans (k.1.mono q.out.size));have HR:=h_ (K.below k.1 K.lt);clear k K;go_wp2_with (refine wpList_store_row rfl 187 (.tmp 4) (.tmp 20) rfl w.heap.size #[.int .i64 ((0:Nat):Int), .int .i64 ((0:Nat):Int), .int .i64 ((0:Nat):Int)] rfl rfl 187 #[.int .i64 0, .int .i64 0, .int .i64 0] HR.out (C.out 0 0 0) rfl (B.out 0 0 0) ?_)
  have d:=setRow_heap A w.heap.size #[.int .i64 0, .int .i64 0, .int .i64 0] #[.int .i64 ((0:Nat):Int), .int .i64 ((0:Nat):Int), .int .i64 ((0:Nat):Int)] 187 (0,0) HR.out;refine bodyPost_ret (v:= .tuple #[nQ 0 0 0, .bool false]) (aB (fn:=Tryz.f167) (p:=4) (u:=5) (ty:=187) rfl _ _ w.heap.size 187 #[.int .i64 ((0:Nat):Int), .int .i64 ((0:Nat):Int), .int .i64 ((0:Nat):Int)] (0,0) _ rfl d Tryz.underlying187 rfl (by kernel_rfl) rfl) rfl ?_;refine F.out _ (L.out.grown (row:=some w.heap.size) ⟨rfl,rfl,rfl,by simp[World.setRow],λg _ l=> ?_⟩ L.out.size (λj e=>by cases e;omega));simp only[World.setRow,vS];rw[if_neg (λe=>l (by rw[e]))]
end Go.Proofs.YtkmbmfengcdmoaaGreatDoor
namespace Go.Jn
theorem lf:∀(N:Nat) (t:List UInt8) (f:Nat),t.length<=N->t.length<=f->cH f t=cH t.length t
 |0,t,f,hN,_=>by
  obtain rfl:=Ky.1 (Nat.le_zero.1 hN);cases f<;>rfl
 |N+1,t,f,hN,hf=>by
  by_cases a:t= []
  ·subst a;cases f<;>rfl
  ·have e:=List.length_pos_iff.2 a;obtain⟨g,c⟩:∃g,t.length=g+1:=⟨t.length-1,by omega⟩
   obtain⟨b,rfl⟩:∃b,f=b+1:=⟨f-1,by omega⟩
   rw[c];unfold cH;rw[if_neg a,if_neg a];split
   ·rfl
   ·rename_i d;cases cI (t.take 4)with
    |none=>rfl
    |some n=>
     simp only;split
     ·rfl
     ·rw[lf N (t.drop (4+n)) b (by rw[zS];omega) (by rw[zS];omega),lf N (t.drop (4+n)) g (by rw[zS];omega) (by rw[zS];omega)]
theorem BD{t:List UInt8}(h:t≠ []):da t=if t.length<4 then none else match cI (t.take 4)with
  |none=>none
  |some n=>if 2000<n\/t.length-4<n then none else(da (t.drop (4+n))).map (λr=>(t.drop 4).take n::r):=by
 have b:=List.length_pos_iff.2 h;obtain⟨g,a⟩:∃g,t.length=g+1:=⟨t.length-1,by omega⟩
 have e:da t=cH (g+1) t:=by unfold da;rw[a]
 rw[e];unfold cH;rw[if_neg h];split
 ·rfl
 ·cases cI (t.take 4)with
  |none=>rfl
  |some n=>
   simp only;split
   ·rfl
   ·unfold da;rw[lf g (t.drop (4+n)) g (by rw[zS];omega) (by rw[zS];omega)]
end Go.Jn
namespace Go.Proofs.YtkmbmfengcdmoaaGreatDoor
open Go.RowKit Go.ay Go.Jn Go.Opn Go.Apl

theorem yy(y:ByteArray)(i j:Nat):(y.extract i j).data.toList=(y.data.toList.drop i).take (j-i):=by simp
def lR(s:ByteArray):List Value:= [.string s]
theorem Db:(Tryz.prog.info? 9).map (λi=>(i.zero,i.size,i.bytes))=some (some (.string ⟨#[]⟩),1,16):=by kernel_rfl
theorem yr(s:ByteArray):(lR s).length=1:=rfl
theorem Ik(s:ByteArray):∀u∈lR s,u.oneCell'=true:=λu a=>by rw[vU.1 a];rfl
def Ld(l:List ByteArray):List (List UInt8):=l.map (λb=>b.data.toList)
def vX(r:Option (List (List UInt8)))(W:World)(e:Ending)(w':World):Prop:=
 Below W.heap.size W w'/\((r=none/\e= .returned (.tuple #[.slice none 0 0, .bool false]))\/∃(p:List ByteArray) (v:Value),r=some (Ld p)/\e= .returned (.tuple #[v, .bool true])/\w'.ownsRow W.heap.size 9 1 v p.length (p.flatMap lR))
def TE(W:World)(s:List UInt8)(t rv:Value)(wr:World):Prop:=
 ∃(x:ByteArray) (p:List ByteArray),t= .string x/\Below W.heap.size W wr/\wr.ownsRow W.heap.size 9 1 rv p.length (p.flatMap lR)/\da s=(da x.data.toList).map (Ld p++ ·)/\p.length+x.size<=s.length
def MM:Value->Nat
 | .string x=>x.size
 |_=>0
set_option maxHeartbeats 4000000 in
theorem Gm(t:ByteArray)(w:World)(ht:t.size<=1000000):Calls Tryz.prog 105 #[.string t] w (vX (da t.data.toList) w):=by
 obtain⟨R,J⟩:=x_ (vX (da t.data.toList) w)
 rw[<-J];have q:t.data.toList.length=t.size:=by simp
 have y:Hid (da t.data.toList=none->∀k,Below w.heap.size w k->R (.returned (.tuple #[.slice none 0 0, .bool false])) k):=λh k T=>by rw[J,h];exact⟨T, .inl ⟨rfl,rfl⟩⟩
 have L:Hid (∀(p:List ByteArray) (v:Value) (k:World),da t.data.toList=some (Ld p)->Below w.heap.size w k->k.ownsRow w.heap.size 9 1 v p.length (p.flatMap lR)->R (.returned (.tuple #[v, .bool true])) k):=λp v k h T ho=>by rw[J,h];exact⟨T, .inr ⟨p,v,rfl,rfl,ho⟩⟩
 obtain⟨s,K⟩:=x_ t.data.toList
 have A:Hid (TE w s (.string t) (.slice none 0 0) w):=⟨t,[],rfl,Below.refl _ _,⟨by simp, .inl ⟨rfl,rfl⟩⟩,by rw[K];simp[Ld],by rw[K,q];simp⟩
 rw[<-K]at y L q;have HS:Hid (s.length<=1000000):=by show _<=_;omega
 clear J K q;go_enter Tryz.func105,Tryz.ntmps105;go_wp2_with fail
 go_loopw [0,4] (λx rv wr=>TE w s x rv wr) (λx _ _=>MM x)
 case atStart=>exact A.out
 case round=>
  clear A;obtain⟨x,p,rfl,B,m,D,l⟩:=hrel;have a:=h_ B;have o:=h_ m;have c:=h_ D;have f:=h_ l;clear B m D l;have an:x.size<=1000000:=by have:=f.out;have:=HS.out;omega
  by_cases Z:x.size=0
  ·obtain rfl:x=⟨#[]⟩:=by have h0:x.data.toList= []:=Ky.1 (by rw[show x.data.toList.length=x.size by simp];exact Z);cases x;simpa using h0
   have F:=h_ (L.out p u4 wr (by rw[c.out];show(some ([]:List (List UInt8))).map _=_;simp) a.out o.out);go_wp2_with fail;exact F.out
  ·have i:x.data.toList≠ []:=λh=>Z (by rw[<-show x.data.toList.length=x.size by simp,h];rfl)
   have q1:(x.toList==([]:List UInt8))=false:=by rw[ByteArray.toList_eq];cases hh:x.data.toList with|nil=>exact absurd hh i|cons _ _=>rfl
   have q2:x.toList.isEmpty=false:=by rw[ByteArray.toList_eq];cases hh:x.data.toList with|nil=>exact absurd hh i|cons _ _=>rfl
   have q3:(x.toList= [])=False:=by rw[ByteArray.toList_eq];exact eq_false i
   have g:=BD i;rw[show x.data.toList.length=x.size by simp]at g;by_cases X:x.size<4
   ·have F:=h_ (y.out (by rw[c.out,g,if_pos X];rfl) wr a.out);have c1:decide ((x.size:Int)<4)=true:=by simp;omega
    clear g;go_wp2_with fail;exact F.out
   ·rw[if_neg X]at g;have c1:decide ((x.size:Int)<4)=false:=by simp;omega
    have z4:(4:Int)<=(x.size:Int):=by omega
    have W:(x.extract 0 4).data.toList=x.data.toList.take 4:=by simp
    have V:Hid (∀w,Calls Tryz.prog 169 #[.string (x.extract 0 4)] w (kr (cI (x.data.toList.take 4)) w)):=λw=>by rw[<-W];exact su _ w (by rw[P8];omega)
    have g:=h_ g;clear W;go_wp2_with fail;refine(V.out _).mono ?_;rintro e k ⟨rfl,⟨S,rfl⟩|⟨n,S,rfl⟩⟩
    ·have F:=h_ (y.out (by rw[c.out,g.out,S];rfl) wr a.out);go_wp2_with fail;exact F.out
    ·have b:=g.out;rw[S]at b;simp only at b;have U:(x.extract 4 x.size).size=x.size-4:=by rw[P8];omega
     have E:(x.extract 4 x.size).data.toList=x.data.toList.drop 4:=by simp;exact np (by simp)
     by_cases hn:n<=2000
     ·have c2:decide ((2000:Int)<(n:Int))=false:=by simp;omega
      by_cases hm:n<=x.size-4
      ·have c3:decide (((x.size-4:Nat):Int)<(n:Int))=false:=by simp;omega
       have c4:decide (x.size-4<n)=false:=by simp;omega
       rw[if_neg (by omega)]at b;clear g V y L;obtain⟨i0,Y,G,H,I⟩:=info_parts Db;have HI:=h_ Y;have N:=h_ G;have O:=h_ H;have P:=h_ I;have c5:(n:Int)<=((x.size-4:Nat):Int):=by omega
       have Q:=h_ b;clear Y G H I b;go_wp2_with (at_builtin;refine dF (ec:=lR) rfl (.tmp 32) (.tmp 36) 137 rfl w.heap.size 9 i0 _ 16 Tryz.underlying137 HI.out N.out O.out P.out rfl (by decide) yr Ik u4 p.length (p.flatMap lR) rfl (o.out.alloc _) (some ⟨wr.heap.size,0,none⟩) 1 [(x.extract 4 x.size).extract 0 n] rfl (cO yr (heap_alloc_new _ _) (λj u hu=>by simpa[lR]using hu)) (by have:=f.out;have:=HS.out;have:maxLen=9223372036854775807:=rfl;simp;omega) (by have:=f.out;have:=HS.out;simp;omega) (by have:=a.out.size;simp;omega) ?_)
       intro v2 w2 d C _;have M:Hid (Below w.heap.size w w2):=(a.out.alloc a.out.size _).grown C (by have:=a.out.size;simp;omega) (λj e=>(o.out.lt j e).1);have z:=h_ d;clear d C;go_wp2_with fail;have zd:((x.extract 4 x.size).extract n (x.size-4)).data.toList=x.data.toList.drop (4+n):=by have a1:(x.extract 4 x.size).data.toList=x.data.toList.drop 4:=E;have a2:((x.extract 4 x.size).extract n (x.size-4)).data.toList=((x.extract 4 x.size).data.toList.drop n).take (x.size-4-n):=yy _ _ _;rw[a2,a1,List.drop_drop];exact np (by simp;omega)
       have zt:((x.extract 4 x.size).extract 0 n).data.toList=(x.data.toList.drop 4).take n:=by rw[yy,E];rfl
       have zs:((x.extract 4 x.size).extract n (x.size-4)).size=x.size-4-n:=by rw[P8,U];omega
       refine⟨⟨(x.extract 4 x.size).extract n (x.size-4),p++ [(x.extract 4 x.size).extract 0 n],rfl,M.out, ?_, ?_, ?_⟩, ?_⟩
       ·rw[fu,DU];exact z.out
       ·rw[c.out,Q.out,zd];cases da (x.data.toList.drop (4+n))with
        |none=>rfl
        |some r=>simp only[GK,Ld,uE,xJ,NP,zt,List.append_assoc,xC,xK]
       ·have:=f.out;rw[fu,zs];simp;omega
       ·show((x.extract 4 x.size).extract n (x.size-4)).size<x.size;rw[zs];omega
      ·have F:=h_ (y.out (by rw[c.out,b,if_pos (by omega)];rfl) wr a.out);have c3:decide (((x.size-4:Nat):Int)<(n:Int))=true:=by simp;omega
       have c4:decide (x.size-4<n)=true:=by simp;omega
       clear b;go_wp2_with fail;exact F.out
     ·have F:=h_ (y.out (by rw[c.out,b,if_pos (by omega)];rfl) wr a.out);have c2:decide ((2000:Int)<(n:Int))=true:=by simp;omega
      clear b;go_wp2_with fail;exact F.out
end Go.Proofs.YtkmbmfengcdmoaaGreatDoor
namespace Go.Proofs.YtkmbmfengcdmoaaGreatDoor
open Go.RowKit Go.ay Go.Jn
theorem jl(w:World):Calls Tryz.prog 189 #[.int .i64 0] w λe w'=>e= .returned (.tuple #[])/\w=w':=by
 obtain⟨R,a⟩:=x_ (λe w'=>e= .returned (.tuple #[])/\w=w':Ending->World->Prop)
 rw[<-a];have F:Hid (R (.returned (.tuple #[])) w):=by rw[a];exact⟨rfl,rfl⟩
 clear a;go_enter Tryz.func189,Tryz.ntmps189;go_wp2_with fail;first
  |exact F.out
  |exact⟨_,rfl,rfl,F.out⟩
  |exact⟨_,rfl,F.out⟩
  |exact bodyPost_ret (results_none rfl _ _ _) rfl F.out
open Go.Dk Go.Mp
theorem IW{w:World}{jb b j bm n:Nat}{pv:Value}{d:DD}(k:w.cell? ⟨jb,5,none⟩=some (.pointer (some ⟨b,0,none⟩)))(h:aI w b j bm pv d n)(s:Int)(g:(DD.read n d s).2=0):
  Calls Tryz.prog 166 #[.pointer (some ⟨jb,0,none⟩), .int .i64 s] w λe w'=>e= .returned (.string ⟨(DD.read n d s).1.toArray⟩)/\w=w':=by
 have a:=h_ (oW h s);have i:=h_ (jl w);rw[g]at a;obtain⟨x,f⟩:=x_ (⟨(DD.read n d s).1.toArray⟩:ByteArray)
 rw[<-f]at a⊢;obtain⟨R,c⟩:=x_ (λe w'=>e= .returned (.string x)/\w=w':Ending->World->Prop)
 rw[<-c];have F:Hid (R (.returned (.string x)) w):=by rw[c];exact⟨rfl,rfl⟩
 clear c f g h;go_enter Tryz.func166,Tryz.ntmps166;go_wp2_with fail;refine a.out.mono ?_;rintro e w' ⟨rfl,rfl⟩;go_wp2_with fail;refine i.out.mono ?_;rintro e w' ⟨rfl,rfl⟩;go_wp2_with fail;first
  |exact F.out
  |exact⟨_,rfl,rfl,F.out⟩
  |exact⟨_,rfl,F.out⟩
end Go.Proofs.YtkmbmfengcdmoaaGreatDoor
