/- Package journal: store, also where the power fails. Condition: the disk is on. -/
import Derived.Test.YtkmbmfengcdmoaaGreatDoorZAX
import Derived.Shelf.Strings.Builder1
import Derived.Shelf.Strings.Builder2
import Derived.Shelf.Small.Bits
import Derived.Shelf.Small.Strs
import Derived.Shelf.Strings.BuilderF
import Derived.Shelf.Strings.BuilderK
import Derived.Shelf.Strconv.Atoi
import Derived.Shelf.Strconv.Itoa0
import Derived.Shelf.Strconv.Itoa1
import Derived.Shelf.LaysM
import Derived.Shelf.Strconv.Itoa2
import Derived.Shelf.Strconv.Itoa3
import Derived.Shelf.Strconv.AtoiErrFast
import Derived.Shelf.Strconv.ParseIntEmpty
import Derived.Shelf.Strconv.AtoiFail
import Derived.Shelf.Strconv.Clone
import Derived.Shelf.Strconv.SyntaxError
import Derived.Shelf.LaysC
import Derived.Shelf.Strconv.ToError
import Derived.Shelf.Strconv.Lower
import Derived.Shelf.Strconv.ParseUint10
import Derived.Shelf.Strconv.ParseUint10Empty
import Derived.Shelf.Strconv.ParseUint10Any
import Derived.Shelf.Strconv.ParseInt10
import Derived.Shelf.Strconv.AtoiLong
import Derived.Shelf.Strconv.AtoiInnerAll
import Derived.Shelf.Strconv.RangeError
import Derived.Shelf.Strconv.ToErrorRange
import Derived.Shelf.Strconv.AtoiAll
import Derived.Shelf.Strconv.ErrVarAll
import Derived.Shelf.Strings.Search1
import Derived.Shelf.Strings.Search2
import Derived.Shelf.Strings.Cut
import Derived.Shelf.Strings.Shaped
import Derived.Shelf.Strconv.AppendUint10
import Derived.Shelf.Strconv.AppendInt10
import Derived.Shelf.Strconv.AppendIntPublic10
import Derived.Shelf.Strings.Prefix
import Derived.Shelf.Bits.Mul64
import Derived.Shelf.Strings.Repeat
import Derived.Ground.Names2Prog
import Derived.Shelf.Slices.Clone
import Derived.Ground.SlgnProg
import Derived.Shelf.SlicesE.Clone
import Derived.Ground.SlgfProg
import Derived.Shelf.SlicesE.IndexFunc
import Derived.Ground.SlsfProg
import Derived.Shelf.SlSortCmp.Insertion
import Derived.Test.YtkmbmfengcdmoaaGreatDoorProg
import Derived.Test.YtkmbmfengcdmoaaGreatDoorZAW
import Derived.Test.YtkmbmfengcdmoaaGreatDoorZAS
set_option maxRecDepth 100000
set_option linter.all false
namespace Go.Proofs.YtkmbmfengcdmoaaGreatDoor
open Go.RowKit Go.ay Go.Jn Go.Dk Go.Mp Go.Rf Go.Shelf

theorem vH{l:List UInt8}{w w':World}{e:Ending}(h:vX (da l) w e w'):Below w.heap.size w w'/\((da l=none/\e= .returned (.tuple #[.slice none 0 0, .bool false]))\/∃r v,da l=some r/\e= .returned (.tuple #[v, .bool true])/\fY w' w.heap.size v r):=by
 obtain⟨f,⟨a,c⟩|⟨p,v,a,c,k⟩⟩:=h
 ·exact⟨f, .inl ⟨a,c⟩⟩
 ·refine⟨f, .inr ⟨_,v,a,c, ?_⟩⟩;unfold fY;have i:(Ld p).map tx=p:=by unfold Ld;rw[PS];exact(List.map_congr_left (λx _=>Ks x)).trans (List.map_id p)
  have j:(Ld p).length=p.length:=by unfold Ld;simp
  rw[i,j];exact k
theorem mi{w:World}{B B':Nat}{rv:Value}{l:List (List UInt8)}(h:fY w B rv l)(m:B'<=B):fY w B' rv l:=by obtain⟨j,k⟩:=h;refine⟨j,k.imp id ?_⟩;rintro⟨g,a,c,e,f,i⟩;exact⟨g,a,c,e,fO m f,i⟩
theorem Bq{w:World}{B:Nat}{rv:Value}{l:List (List UInt8)}(h:fY w B rv l):∃A n c,rv= .slice A n c:=by
 rcases h.2 with⟨a,_⟩|⟨g,e,f,a,_⟩
 ·exact⟨_,_,_,a⟩
 ·exact⟨_,_,_,a⟩
def GZ(w:World)(jb bw b n:Nat)(d:DD)(e:Ending)(w':World):Prop:=
 e= .returned (.tuple #[])/\aJ (λk=>k=jb\/k=bw) w w'/\
  (((dR n d).2=none/\(dR n d).1=20/\ay w' bw [.bool false] 4)\/
   ∃v a r rv,dR n d=(0,some (v,a,r))/\ay w' bw [.bool true] 4/\ay w' jb (dW v a ((n-2) / 2) b rv false) 189/\fY w' w.heap.size rv r)
set_option maxHeartbeats 3000000 in
theorem Fu{w:World}{jb L i b bs bm n:Nat}{pv:Value}{d:DD}(hd:aI w b bs bm pv d n)(T:d.on=true)(hn:4<=n)(U:ay w jb (dW (0,0,0) 0 ((n-2) / 2) b (.slice none 0 0) false) 189)
  (E:ay w L [.pointer (some ⟨jb,0,none⟩)] 101) (j:ay w i [.bool false] 4):Calls Tryz.prog 103 #[.pointer (some ⟨L,0,none⟩), .pointer (some ⟨i,0,none⟩)] w (GZ w jb i b n d):=by
 have f9:=hd.ok.n2;obtain⟨R,eR⟩:=x_ (GZ w jb i b n d)
 rw[<-eR];have F:i≠jb:=by
  rintro rfl
  have:=U.symm.trans j;simp at this
 have H:L≠jb:=by
  rintro rfl
  have:=U.symm.trans E;simp at this
 have ci:L≠i:=by
  rintro rfl
  have:=E.symm.trans j;simp at this
 have PR:=h_ (zb hd T hn U);have HD:=h_ hd;have HJ:=h_ U;have H1:=h_ E;have H2:=h_ j;have ER:=h_ eR;have an:=h_ (λk (hk:Fp b bs bm pv k) (e:k=jb)=>jG hd U (by decide) (by decide) (by decide) (e▸hk));have c0:=E.ag 0 _ rfl;have N:=h_ T;clear hd U eR E j T;go_enter Tryz.func103,Tryz.ntmps103;go_wp2_with fail;refine PR.out.mono ?_;rintro e w1 ⟨I,⟨M,rfl⟩|⟨v,a,M,rfl,K⟩⟩
 ·have m:=(H2.out.bG (I.block i H2.out.lt F))
  have f0:=m.frozen 0;have c1:=m.ag 0 _ rfl;have g0:w1.cell? ⟨L,0,none⟩=some (.pointer (some ⟨jb,0,none⟩)):=fL c0 I H;have z:Hid (R (.returned (.tuple #[])) (w1.setCell ⟨i,0,none⟩ (.bool false))):=by
   rw[ER.out];have eo:dR n d=(20,none):=by unfold dR;rw[if_neg (by rw[N.out];decide),if_neg (by omega),M]
   refine⟨rfl,(I.mono (λk _ h=> .inl h)).setCell (p:=⟨i,0,none⟩) (λ_=> .inr rfl) _, .inl ⟨by rw[eo],by rw[eo],m.set 0 _⟩⟩
  clear m I;go_wp2_with fail;first
   |exact z.out
   |exact bodyPost_ret (results_none rfl _ _ _) rfl z.out
   |exact⟨_,rfl,rfl,z.out⟩
   |exact⟨_,rfl,z.out⟩
 ·have m:=(H2.out.bG (I.block i H2.out.lt F))
  have f0:=m.frozen 0;have c1:=m.ag 0 _ rfl;have g0:w1.cell? ⟨L,0,none⟩=some (.pointer (some ⟨jb,0,none⟩)):=fL c0 I H;have q:=h_ K;have HP:=h_ M;have HB:=h_ m;have kV:aJ (λk=>k=i) w1 (w1.setCell ⟨i,0,none⟩ (.bool true)):=(aJ.refl (λk=>k=i) w1).setCell (p:=⟨i,0,none⟩) (λ_=>rfl) _;obtain⟨V,eV⟩:=x_ (w1.setCell ⟨i,0,none⟩ (.bool true))
  have A:Hid (ay V i [.bool true] 4):=by rw[eV];exact m.set 0 _
  rw[<-eV]at kV;have K1:=h_ ((I.mono (λk _ h=> .inl h)).trans kV (λk _ h=> .inr h):aJ (λk=>k=jb\/k=i) w V);have d6:=h_ ((HD.out.bD I an.out).bD kV (λk hk e=>jG (HD.out.bD I an.out) m (by decide) (by decide) (by decide) (e▸hk)));have q:=h_ (K.bG (kV.block jb K.lt (nq F)));have s:Hid (ay V L [.pointer (some ⟨jb,0,none⟩)] 101):=H1.out.bG (K1.out.block L H1.out.lt (λh=>h.elim H ci));have CT:=h_ (yl (w:=V.drew) (d6.out.below (gj V 1)) N.out hn q.out.drew (fE M).1 (fE M).2);have bi:(half (nc d) ((n-2) / 2) v.2.1 v.2.2).length<=1000000:=by have:=(fE M).2;unfold half;rw[jQ];omega
  have P:=h_ (fun(B:World)=>(Gm (tx (half (nc d) ((n-2) / 2) v.2.1 v.2.2)) B (by rw[ft];omega)));rw[gH]at P;have Y:Hid (dR n d=match da (half (nc d) ((n-2) / 2) v.2.1 v.2.2)with
    |none=>(20,none)
    |some r=>(0,some (v,a,r))):=by
   show _=_;unfold dR;rw[if_neg (by rw[N.out];decide),if_neg (by omega),M];rfl
  obtain⟨l,el⟩:=x_ (half (nc d) ((n-2) / 2) v.2.1 v.2.2)
  rw[<-el]at CT P Y;obtain⟨x,ex⟩:=x_ (tx l)
  rw[<-ex]at CT P;have dl:=h_ eV;clear M K m I el ex bi kV eV;go_wp2_with fail;rw[<-dl.out];have D:=s.out.ag 0 _ rfl;clear c0 c1 f0 g0;have FK:Hid (∀(o:World) (rv:Value) (u:Bool),Below V.drew.heap.size V.drew o->aJ (λk=>k=jb\/k=i) w ((o.setCell ⟨jb,6,none⟩ rv).setCell ⟨i,0,none⟩ (.bool u))/\ay ((o.setCell ⟨jb,6,none⟩ rv).setCell ⟨i,0,none⟩ (.bool u)) i [.bool u] 4/\ay ((o.setCell ⟨jb,6,none⟩ rv).setCell ⟨i,0,none⟩ (.bool u)) jb (dW v a ((n-2) / 2) b rv false) 189):=λo rv u m=>by
   have k3:aJ (λk=>k=jb\/k=i) w o:=K1.out.trans (G:=λ_=>False) (aJ.aY (show Below V.heap.size V o from⟨m.os,m.tape,m.output,m.size,m.block⟩)) (λ_ _ f=>f.elim);have y:=A.out.drew.below m A.out.lt;have t:=q.out.drew.below m q.out.lt;exact⟨(k3.setCell (p:=⟨jb,6,none⟩) (λ_=> .inl rfl) _).setCell (p:=⟨i,0,none⟩) (λ_=> .inr rfl) _,(y.cL (a:=⟨jb,6,none⟩) (nq F) rv).set 0 _,(t.set 6 rv).cL (a:=⟨i,0,none⟩) F _⟩
  cases hs:da l with
  |none=>
   have SN:Hid (∀B,Calls Tryz.prog 105 #[.string x] B λe X=>e= .returned (.tuple #[.slice none 0 0, .bool false])/\Below B.heap.size B X):=λB=>by
    refine(P.out B).mono λe X h=> ?_
    obtain⟨Q,⟨_,Z⟩|⟨r,v,C,_,_⟩⟩:=vH h
    ·exact⟨Z,Q⟩
    ·rw[hs]at C;cases C
   have J:Hid (dR n d=(20,none)):=by have:=Y.out;rw[hs]at this;exact this
   have z:Hid (∀o,Below V.drew.heap.size V.drew o->R (.returned (.tuple #[])) ((o.setCell ⟨jb,6,none⟩ (.slice none 0 0)).setCell ⟨i,0,none⟩ (.bool false))):=λo m=>by
    obtain⟨Q,C,_⟩:=FK.out o (.slice none 0 0) false m;rw[ER.out];exact⟨rfl,Q, .inl ⟨by rw[J.out],by rw[J.out],C⟩⟩
   clear P Y hs
   go_region_with (first
    |(refine CT.out.mono ?_;rintro e w2 ⟨rfl,j⟩;have D:=s.out.drew.below j s.out.lt;have D:=D.ag 0 _ rfl)
    |(refine(SN.out _).mono ?_;rintro e o ⟨rfl,S⟩;have c:=j.trans (S.mono j.size);have D:=s.out.drew.below c s.out.lt;have D:=D.ag 0 _ rfl;have t:=q.out.drew.below c q.out.lt;have c6:=t.ag 6 _ rfl;have f6:=t.frozen 6;have y:=A.out.drew.below c A.out.lt;have cw:=y.ag 0 _ rfl;have fw:=y.frozen 0))
   all_goals (have G:=h_ (z.out _ c);clear c c6 f6 cw fw t y;go_end0;exact G.out)
  |some r=>
   have SN:Hid (∀B,Calls Tryz.prog 105 #[.string x] B λe X=> ∃rv,e= .returned (.tuple #[rv, .bool true])/\Below B.heap.size B X/\fY X B.heap.size rv r):=λB=>by
    refine(P.out B).mono λe X h=> ?_
    obtain⟨Q,⟨C,_⟩|⟨r',v',C,Z,h4⟩⟩:=vH h
    ·rw[hs]at C;cases C
    ·rw[hs]at C;cases C
     exact⟨v',Z,Q,h4⟩
   have J:Hid (dR n d=(0,some (v,a,r))):=by have:=Y.out;rw[hs]at this;exact this
   have z:Hid (∀o rv,Below V.drew.heap.size V.drew o->fY o V.heap.size rv r->R (.returned (.tuple #[])) ((o.setCell ⟨jb,6,none⟩ rv).setCell ⟨i,0,none⟩ (.bool true))):=λo rv m hr=>by
    obtain⟨Q,C,Z⟩:=FK.out o rv true m;rw[ER.out];have d9:jb<V.heap.size:=q.out.lt;have f8:i<V.heap.size:=A.out.lt;have d7:fY ((o.setCell ⟨jb,6,none⟩ rv).setCell ⟨i,0,none⟩ (.bool true)) V.heap.size rv r:=hr.bD λk hk=>by
     have d8:=(World.ownsRow.lt hr k hk).1;rw[Below.heap_setCell _ _ _ _ (by show k≠i;omega),Below.heap_setCell _ _ _ _ (by show k≠jb;omega)]
    exact⟨rfl,Q, .inr ⟨v,a,r,rv,J.out,C,Z,mi d7 K1.out.size⟩⟩
   clear P Y hs
   go_region_with (first
    |(refine CT.out.mono ?_;rintro e w2 ⟨rfl,j⟩;have D:=s.out.drew.below j s.out.lt;have D:=D.ag 0 _ rfl)
    |(refine(SN.out _).mono ?_;rintro e o ⟨rv,rfl,S,co⟩;have c:=j.trans (S.mono j.size);have O:=h_ (mi co j.size);clear co;have D:=s.out.drew.below c s.out.lt;have D:=D.ag 0 _ rfl;have t:=q.out.drew.below c q.out.lt;have c6:=t.ag 6 _ rfl;have f6:=t.frozen 6;have y:=A.out.drew.below c A.out.lt;have cw:=y.ag 0 _ rfl;have fw:=y.frozen 0;obtain⟨Ar,lr,cr,rfl⟩:=Bq O.out))
   all_goals (have G:=h_ (z.out _ _ c O.out);clear c c6 f6 cw fw t y O;go_end0;exact G.out)
end Go.Proofs.YtkmbmfengcdmoaaGreatDoor
namespace Go.Proofs
open Go.Shelf
def Tryz.ur:Go.Shelf.Ren:=⟨fun|16=>107|n=>n,fun|24=>137|9=>9|4=>4|n=>n,fun|n=>n⟩
theorem Tryz.u7:Go.Proofs.Lays2.n16 Tryz.prog Tryz.ur:=by repeat' first|kernel_rfl|decide|intro _|constructor
open Go.RowKit Go.Lib in
theorem Tryz.slices_Clone_string(b off n c:Nat)(f:List ByteArray)(w:World)(hz:n<=f.length)(a:n*16<=140737488355328)(i:∀j,j<f.length->w.cell? ⟨b,off+j,none⟩=some (.string (f.getD j ByteArray.empty))):
  Calls Tryz.prog 107 #[.slice (some ⟨b,off,none⟩) n c] w λe w'=> ∃h,e= .returned h/\w'.ownsRow w.heap.size 9 1 h n ((f.take n).map (Value.string))/\h≠ .slice none 0 0/\Below w.heap.size w w':=Any.slices_Clone_string Tryz.u7 b off n c f w hz a i
open Go.RowKit Go.Lib in
theorem Tryz.slices_Clone_string_nil(n c:Nat)(w:World):
  Calls Tryz.prog 107 #[.slice none n c] w λe w'=>e= .returned (.slice none 0 0)/\w'=w:=Any.slices_Clone_string_nil Tryz.u7 n c w
end Go.Proofs
namespace Go.Proofs.YtkmbmfengcdmoaaGreatDoor
open Go.RowKit Go.ay Go.Jn Go.Dk Go.Mp Go.Rf Go.Shelf

theorem yC(l:List (List UInt8)):(l.map tx).flatMap lR=(l.map tx).map Value.string:=by
 induction l with
 |nil=>rfl
 |cons x l ih=>rw[xJ,BZ,ih];rfl
theorem Ei{w:World}{base:Nat}{rv:Value}{l:List (List UInt8)}(h:fY w base rv l)(z:l.length<=1000000):
  Calls Tryz.prog 107 #[rv] w λe w'=> ∃A c,e= .returned (.slice A l.length c)/\fY w' w.heap.size (.slice A l.length c) l/\Below w.heap.size w w':=by
 rcases h.2 with⟨a,i⟩|⟨g,k,u,a,_⟩
 ·rw[a];refine(Tryz.slices_Clone_string_nil 0 0 w).mono ?_;rintro e w' ⟨rfl,rfl⟩;have p:l= []:=Ky.1 i;subst p;exact⟨none,0,rfl,World.ownsRow_nil _ _ _ _,Below.refl _ _⟩
 ·subst a;have v:=λj m=>World.ownsRow.cellAt h j m
  refine(Tryz.slices_Clone_string g 0 l.length k (l.map tx) w (by simp) (by omega) (λj m=> ?_)).mono ?_
  ·have o:j<l.length:=by simpa using m
   have:=v j (by omega);rw[yC]at this;rw[nW,this,mx,BX];rw[eH (by simpa using o)];rfl
  ·rintro e w' ⟨x,rfl,t,_,s⟩;have f:fY w' w.heap.size x l:=by unfold fY;rw[yC];rw[np (by simp)]at t;exact t
   rcases f.2 with⟨a,i⟩|⟨y,q,r,a,_⟩
   ·exact⟨none,0,by rw[a,i],by rw[i, <-a];exact f,s⟩
   ·exact⟨_,_,by rw[a],by rw[<-a];exact f,s⟩
def G5(w:World)(b bs bm n:Nat)(pv:Value)(d:DD)(e:Ending)(w':World):Prop:=
 Below w.heap.size w w'/\(((dR n d).2=none/\e= .returned (.tuple #[.pointer none, .slice none 0 0, .int .i64 (dR n d).1]))\/
  ∃v a r jb rv A c,dR n d=(0,some (v,a,r))/\e= .returned (.tuple #[.pointer (some ⟨jb,0,none⟩), .slice A r.length c, .int .i64 0])/\
   Cc w' jb b bs bm pv rv n ⟨d,v,a,r,false⟩/\w.heap.size<=jb/\(∀k,rv.ownBlock=some k->w.heap.size<=k)/\
   fY w' w.heap.size (.slice A r.length c) r/\(∀k,(Value.slice A r.length c).ownBlock=some k-> ¬pD jb b bs bm pv rv k))
theorem zl:∀l:List (List UInt8),4*l.length<=dG l
 | []=>gu _
 |b::l=>by
  have:=zl l;show 4*(l.length+1)<=4+b.length+dG l;omega
def N7(V:World)(jb bj bw b n:Nat)(d:DD)(e:Ending)(w':World):Prop:=
 e= .returned (.int .i64 0)/\aJ (λk=>k=jb\/k=bw) V w'/\ay w' bj [.pointer (some ⟨jb,0,none⟩)] 101/\
  (((dR n d).2=none/\(dR n d).1=20/\ay w' bw [.bool false] 4)\/
   ∃v a r rv,dR n d=(0,some (v,a,r))/\ay w' bw [.bool true] 4/\ay w' jb (dW v a ((n-2) / 2) b rv false) 189/\fY w' V.heap.size rv r)
set_option maxHeartbeats 1000000 in
theorem Jv{w:World}{b bs bm n:Nat}{pv:Value}{d:DD}(E:aI w b bs bm pv d n):Calls Tryz.prog 65 #[.pointer (some ⟨b,0,none⟩)] w (G5 w b bs bm n pv d):=by
 have g8:=E.ok.n2;have g7:=E.ok.n1;obtain⟨R,Y⟩:=x_ (G5 w b bs bm n pv d)
 rw[<-Y];have N:=h_ (oW E 0);have M:Hid (∀c C,dR n d=(c,none)->Below w.heap.size w C->R (.returned (.tuple #[.pointer none, .slice none 0 0, .int .i64 c])) C):=λc C h q=>by
  rw[Y];exact⟨q, .inl ⟨by rw[h],by rw[h]⟩⟩
 cases hon:d.on with
 |false=>
  have X:DD.read n d 0=([],21):=by unfold DD.read;rw[if_neg (by rw[hon];decide)]
  rw[X]at N;have F:=h_ (M.out 21 w (by unfold dR;rw[if_pos hon]) (Below.refl _ _));clear M Y E hon X;go_enter Tryz.func65,Tryz.ntmps65;go_wp2_with fail;refine N.out.mono ?_;rintro e C ⟨rfl,rfl⟩;go_wp2_with fail;exact bodyPost_ret (v:= .tuple #[.pointer none, .slice none 0 0, .int .i64 21]) (by simp[results,Tryz.results65,go_sem]) rfl F.out
 |true=>
  have X:=(Cp E.ok hon (s:=0) (by omega))
  have e2:(DD.read n d 0).2=0:=X.1;rw[e2]at N;obtain⟨x,ex⟩:=x_ (⟨(DD.read n d 0).1.toArray⟩:ByteArray)
  rw[<-ex]at N;have CN:=h_ (Ek E hon);have HD:=h_ E;have T:=h_ hon;have ER:=h_ Y;clear X e2 ex E hon Y;by_cases f9:n<4
  ·have t1:decide ((n:Int)<4)=true:=dt (by omega);have F:=h_ (λC q=>M.out 1 C (by unfold dR;rw[if_neg (by rw[T.out];decide),if_pos f9]) q);clear M ER;go_enter Tryz.func65,Tryz.ntmps65;go_wp2_with fail;refine N.out.mono ?_;rintro e C ⟨rfl,rfl⟩;go_wp2_with fail;refine CN.out.mono ?_;rintro e C ⟨rfl,q⟩;have G:=h_ (F.out _ q);clear q;go_wp2_with fail;exact bodyPost_ret (v:= .tuple #[.pointer none, .slice none 0 0, .int .i64 1]) (by simp[results,Tryz.results65,go_sem]) rfl G.out
  ·have t1:decide ((n:Int)<4)=false:=dy (by omega);obtain⟨size,es⟩:=x_ ((n-2) / 2)
   have hq:((n:Int)-2) / 2=(size:Int):=by omega
   have ES:=h_ es;clear es;have gt:∀(fn:Fn) (first cap:Array Value) (w:World),(Instr.makeFunc fn first cap).run Tryz.prog w= .ok (.func fn first cap) w:=λ_ _ _ _=>rfl
   go_enter Tryz.func65,Tryz.ntmps65;go_wp2_with fail;refine N.out.mono ?_;rintro e C ⟨rfl,rfl⟩;go_wp2_with fail;refine CN.out.mono ?_;rintro e w1 ⟨rfl,an⟩;have i:=h_ an;clear an;go_wp2_with fail;obtain⟨V,J⟩:=x_ (((w1.alloc (.cells #[.int .i64 0, .int .i64 0, .int .i64 0, .int .i64 0, .int .i64 (size:Int), .pointer (some ⟨b,0,none⟩), .slice none 0 0, .bool false] 189)).alloc (.cells #[.pointer (some ⟨w1.heap.size,0,none⟩)] 101)).alloc (.cells #[.bool false] 4))
   have t:Hid (Below w1.heap.size w1 V):=by rw[J];exact(((Below.refl _ w1).alloc (aL _) _).alloc (by simp) _).alloc (by simp;omega) _
   have kJ:Hid (ay V w1.heap.size (dW (0,0,0) 0 ((n-2) / 2) b (.slice none 0 0) false) 189):=by rw[J, <-ES.out];exact((ay.new w1 _ _).alloc _).alloc _
   have kP:Hid (ay V (w1.heap.size+1) [.pointer (some ⟨w1.heap.size,0,none⟩)] 101):=by rw[J];exact(ay.made (by simp) rfl).alloc _
   have kW:Hid (ay V (w1.heap.size+1+1) [.bool false] 4):=by rw[J];exact ay.made (by simp) rfl
   have VS:Hid (V.heap.size=w1.heap.size+3):=by show _=_;rw[J];simp
   rw[<-J];clear J;refine(DP (g:=103) (N7 V w1.heap.size (w1.heap.size+1) (w1.heap.size+1+1) b n d) (enters_of Tryz.func103 (by kernel_rfl) rfl) (by have:=VS.out;omega) ?_).mono ?_
   ·have O:Below V.heap.size V ((V.alloc (.cells #[.pointer (some ⟨w1.heap.size,0,none⟩)] 101)).alloc (.cells #[.int .i64 0] 52)):=((Below.refl _ V).alloc (aL _) _).alloc (by simp) _;have f8:=(HD.out.below i.out).below t.out;refine(Fu (f8.below O) T.out (by omega) (kJ.out.below O kJ.out.lt) (kP.out.below O kP.out.lt) (kW.out.below O kW.out.lt)).mono ?_;rintro e w2 ⟨rfl,j,hc⟩;have t1:=((ay.new V [.pointer (some ⟨w1.heap.size,0,none⟩)] 101).alloc (.cells #[.int .i64 0] 52))
    have t2:ay ((V.alloc (.cells #[.pointer (some ⟨w1.heap.size,0,none⟩)] 101)).alloc (.cells #[.int .i64 0] 52)) (V.heap.size+1) [.int .i64 0] 52:=ay.made (by simp) rfl;refine⟨t1.bG (j.block _ t1.lt (by have:=VS.out;omega)),t2.bG (j.block _ t2.lt (by have:=VS.out;omega)), .inl ⟨rfl, ?_⟩⟩;have bi:aJ (λk=>k=w1.heap.size\/k=w1.heap.size+1+1) V (w2.setCell ⟨V.heap.size+1,0,none⟩ (.int .i64 0)):=(aJ.trans (F:=λk=>k=w1.heap.size\/k=w1.heap.size+1+1) (aJ.aY O) j (λ_ _ f=>f)).setCell (p:=⟨V.heap.size+1,0,none⟩) (λh=>absurd h (by show ¬V.heap.size+1<V.heap.size;omega)) _;have hs:=VS.out;have gc:=bi.block (w1.heap.size+1) kP.out.lt (by omega);refine⟨rfl,bi,kP.out.bG gc, ?_⟩;rcases hc with⟨z,P,c3⟩|⟨v,a,r,rv,z,P,c3,c4⟩
    ·exact .inl ⟨z,P,c3.cL (a:=⟨V.heap.size+1,0,none⟩) (by show V.heap.size+1≠_;omega) _⟩
    ·refine .inr ⟨v,a,r,rv,z,P.cL (a:=⟨V.heap.size+1,0,none⟩) (by show V.heap.size+1≠_;omega) _,c3.cL (a:=⟨V.heap.size+1,0,none⟩) (by show V.heap.size+1≠_;omega) _,mi (fY.bD c4 λk j=> ?_) O.size⟩
     have:=(World.ownsRow.lt c4 k j).1;exact Below.heap_setCell _ _ _ _ (by show k≠V.heap.size+1;simp at this;omega)
   ·rintro e o ⟨rfl,j,B,⟨z,P,y⟩|⟨v,a,r,rv,z,y,L,m⟩⟩
    ·have u:Below w.heap.size w o:=by have D:=i.out.trans (t.out.mono i.out.size);exact D.trans (j.below (λk h=>by have:=i.out.size;omega) D.size)
     have G:=h_ (M.out 20 o (by rw[<-z, <-P]) u);have cw:=y.ag 0 _ rfl;clear j B y z P u;go_wp2_with fail;exact bodyPost_ret (v:= .tuple #[.pointer none, .slice none 0 0, .int .i64 20]) (by simp[results,Tryz.results65,go_sem]) rfl G.out
    ·have u:Below w.heap.size w o:=by have D:=i.out.trans (t.out.mono i.out.size);exact D.trans (j.below (λk h=>by have:=i.out.size;omega) D.size)
     have HK:=h_ j;have d7:Hid (aI o b bs bm pv d n):=((HD.out.below i.out).below t.out).bD j (λk H=>by have:=HD.out.lt H;have:=i.out.size;omega);have U:=h_ B;have d8:=h_ L;have d9:=h_ m;have S:=h_ u;have EO:=h_ z;have H:=AH z;have HF:=h_ H;have CL:=h_ (Ei (w:=o.drew) m (by
      have D:=uX (mD HD.out.ok) H.2.2.2;have h2:=(fE H.2.2.2.mY).2;have h3:=zl r;omega))
     have cw:=y.ag 0 _ rfl;have c0:=B.ag 0 _ rfl;have c6:=L.ag 6 _ rfl;obtain⟨Ar,lr,cr,rfl⟩:=Bq m;clear j B L m y z u H;go_wp2_with fail;have d6:Hid (∀(Q:World) (A:Option Addr) (c:Nat),fY Q o.drew.heap.size (.slice A r.length c) r->Below o.drew.heap.size o.drew Q->R (.returned (.tuple #[.pointer (some ⟨w1.heap.size,0,none⟩), .slice A r.length c, .int .i64 0])) Q):=λQ A c hr q=>by
      rw[ER.out];have Z:Below o.heap.size o Q:=⟨q.os,q.tape,q.output,q.size,q.block⟩
      have h3:=d9.out;have I:=fE HF.out.2.2.2.mY;have ge:=i.out.size;have dl:=S.out.size;have hj:Cc o w1.heap.size b bs bm pv (.slice Ar lr cr) n ⟨d,v,a,r,false⟩:=
       ⟨by omega,d7.out,d8.out,mi h3 (gu _),JI HF.out.2.2.2.mY,I.1,I.2,show a<=1 from(wU HF.out.2.2.2.mY).elim (λh=>by omega) (λh=>by omega)⟩
      refine⟨S.out.trans (Z.mono dl), .inr ⟨v,a,r,w1.heap.size,_,A,c,EO.out,rfl,hj.below Z,ge,λk j=> ?_,mi hr dl,λk j H=> ?_⟩⟩
      ·have:=(World.ownsRow.lt h3 k j).1;have hv:=t.out.size;omega
      ·have D:=(World.ownsRow.lt hr k j).1;have h2:k<o.heap.size:=hj.lt H;have h4:o.heap.size<=k:=D;omega
     clear M
     go_region_with (refine CL.out.mono ?_;rintro e Q ⟨A4,c4,rfl,co,K⟩;have ci:=U.out.drew.below K U.out.lt;have c0:=ci.ag 0 _ rfl)
     all_goals (have G:=h_ (d6.out _ _ _ co K);clear co K ci c0;go_wp2_with fail;exact bodyPost_ret (v:= .tuple #[.pointer (some ⟨w1.heap.size,0,none⟩), .slice A4 r.length c4, .int .i64 0]) (by simp[results,Tryz.results65,go_sem]) rfl G.out)
attribute [local go_sem] Oper.semAt_some
def dD(w:World)(b bs bm n:Nat)(pv:Value)(d:DD)(w':World):Prop:=
 ∃bm' pv',aI w' b bs bm' pv' d n/\aJ (Fp b bs bm pv) w w'/\(bm'=bm\/w.heap.size<=bm')/\(∀k,pv'.ownBlock=some k->pv.ownBlock=some k\/w.heap.size<=k)
section
variable {w w1 w2:World} {b bs bm bm1 n:Nat} {pv pv1:Value} {d:DD}
theorem dD.after(k:aJ (Fp b bs bm pv) w w1)(e:bm1=bm\/w.heap.size<=bm1)(m:∀k,pv1.ownBlock=some k->pv.ownBlock=some k\/w.heap.size<=k)(h:dD w1 b bs bm1 n pv1 d w2):dD w b bs bm n pv d w2:=by
 obtain⟨a,c,o,p,q,r⟩:=h;refine⟨a,c,o,k.trans p (λi s f=>iY e m i s f), ?_,λj t=> ?_⟩
 ·rcases q with rfl|h
  ·exact e
  ·exact .inr (fO k.size h)
 ·rcases r j t with h|h
  ·exact m j h
  ·exact .inr (fO k.size h)
end
def ji(W:World)(g:Nat)(l:List UInt8):Prop:=∃(rest:List Value) (m:Nat),W.heap[g]? =some (.cells (l.map C8++rest).toArray 5 (m,m+1))/\m=l.length+rest.length
section
variable {W W':World} {g:Nat} {l:List UInt8}
theorem ji.cell(h:ji W g l)(i:Nat)(c:i<l.length):W.cell? ⟨g,i,none⟩=some (C8 l[i]):=by obtain⟨r,m,a,_⟩:=h;simp only[World.cell?,a];simp[c,xL]
theorem ji.frozen(h:ji W g l)(i:Nat)(e:i<l.length):W.frozen? ⟨g,i,none⟩=false:=by obtain⟨r,m,a,c⟩:=h;simp[World.frozen?,a];omega
theorem ji.set(h:ji W g l)(i:Nat)(e:i<l.length)(x:UInt8):ji (W.setCell ⟨g,i,none⟩ (C8 x)) g (l.set i x):=by obtain⟨r,m,a,c⟩:=h;refine⟨r,m, ?_,by simpa using c⟩;simp only[World.setCell,vS,uf,a,GK];congr 2;simp[e]
theorem ji.bD(h:ji W g l)(e:W'.heap[g]? =W.heap[g]?):ji W' g l:=by obtain⟨r,m,a,c⟩:=h;exact⟨r,m,e.trans a,c⟩
theorem ji.lt(h:ji W g l):g<W.heap.size:=by obtain⟨r,m,a,_⟩:=h;exact(iS.1 a).1
end
theorem Hp(W:World)(x:List UInt8):∃cap,ji (W.drew.alloc (.cells (bytesRow (tx x) (grownCap W (tx x).size 0 5)) 5 ((bytesRow (tx x) (grownCap W (tx x).size 0 5)).size,(bytesRow (tx x) (grownCap W (tx x).size 0 5)).size+1))) W.heap.size x/\cap=grownCap W (tx x).size 0 5:=by
 refine⟨_,⟨List.replicate (grownCap W (tx x).size 0 5- (tx x).size) (.int .u8 0),(bytesRow (tx x) (grownCap W (tx x).size 0 5)).size, ?_, ?_⟩,rfl⟩
 ·show(W.heap.push _)[W.heap.size]? =_;rw[Array.getElem?_push_size];congr 2;simp[bytesRow,tx,C8]
 ·simp[bytesRow,tx]
def ma(t:List UInt8)(start off:Nat)(text:List UInt8)(i:Nat):List UInt8:=(patch t start off text).take i++t.drop i
theorem iu(t:List UInt8)(start off:Nat)(text:List UInt8)(i:Nat):(ma t start off text i).length=t.length:=by unfold ma;rw[fu,jQ,zS,dX];omega
theorem FH(t:List UInt8)(start off:Nat)(text:List UInt8):ma t start off text 0=t:=by unfold ma;simp
theorem JD(t:List UInt8)(start off:Nat)(text:List UInt8)(i:Nat)(h:t.length<=i):ma t start off text i=patch t start off text:=by unfold ma;rw[np (by rw[dX];exact h),List.drop_eq_nil_of_le h,DS]
theorem rO(t:List UInt8)(start off:Nat)(text:List UInt8)(i p:Nat)(a:p<t.length):(ma t start off text i)[p]? =if p<i then(patch t start off text)[p]? else t[p]? :=by
 unfold ma;by_cases h:p<i
 ·rw[if_pos h,xL (by rw[jQ,dX];omega),qC,if_pos h]
 ·rw[if_neg h,BW (by rw[jQ,dX];omega),jQ,dX,GI];congr 1;omega
theorem Mu{t:List UInt8}{start off:Nat}{text:List UInt8}{i:Nat}{c:UInt8}(m:i<t.length)(j:off<=start+i)(f:text[start+i-off]? =some c):ma t start off text (i+1)=(ma t start off text i).set i c:=by
 have k:start+i-off<text.length:=(jS.1 f).1;apply rC;intro p;by_cases a:p<t.length
 ·rw[rO _ _ _ _ _ _ a];by_cases e:p=i
  ·subst e;rw[if_pos (by omega),oT _ _ _ _ _ a,if_pos (by omega),f,Sk (by rw[iu];exact a)]
  ·rw[List.getElem?_set_ne (by omega),rO _ _ _ _ _ _ a];by_cases h:p<i
   ·rw[if_pos (by omega),if_pos h]
   ·rw[if_neg (by omega),if_neg h]
 ·rw[pz (by rw[iu];omega),pz (by rw[List.length_set,iu];omega)]
theorem y9{t:List UInt8}{start off:Nat}{text:List UInt8}{i:Nat}(c:i<t.length)(h: ¬(off<=start+i/\start+i<off+text.length)):ma t start off text (i+1)=ma t start off text i:=by
 apply rC;intro p;by_cases a:p<t.length
 ·rw[rO _ _ _ _ _ _ a,rO _ _ _ _ _ _ a];by_cases e:p=i
  ·subst e;rw[if_pos (by omega),if_neg (by omega),oT _ _ _ _ _ a,if_neg h]
  ·by_cases h:p<i
   ·rw[if_pos (by omega),if_pos h]
   ·rw[if_neg (by omega),if_neg h]
 ·rw[pz (by rw[iu];omega),pz (by rw[iu];omega)]
def SI(w:World)(b bs bm n:Nat)(pv:Value)(base off:Nat)(text:List UInt8)(half jb q:Nat)(d:DD)(pre:List Nat)(W:World):Prop:=
 ∃dc pv',(∀rest,cA n base off text (pre++rest) d=cA n base off text rest dc)/\dc.on=d.on/\dc.aF.length<=d.aF.length+pre.length/\
  aI W b bs bm pv' dc n/\aJ (Fp b bs bm pv) w W/\(∀k,pv'.ownBlock=some k->pv.ownBlock=some k\/w.heap.size<=k)/\
  ay W w.heap.size [.pointer (some ⟨jb,0,none⟩)] 101/\ay W (w.heap.size+1) [.int .i64 (off:Int)] 3/\ay W (w.heap.size+2) [.string (tx text)] 9/\
  ay W (q+3) [.int .i64 (text.length:Int)] 3/\ay W (q+2) [.int .i64 (off:Int)] 3/\ay W (q+1) [.int .i64 (half:Int)] 3/\ay W q [.pointer (some ⟨jb,0,none⟩)] 101
theorem Ic{X Y:World}{b bs bm n B:Nat}{pv:Value}{d:DD}{row:Option Nat}(h:aI X b bs bm pv d n)(j:X.grownBy Y row)(q:∀r,row=some r->B<=r/\∃o:Obj,X.heap[r]? =some o/\o.isCells=false)(y:bm<B):aI Y b bs bm pv d n:=by
 have a:∀k c t i,X.heap[k]? =some (Obj.cells c t i)->Y.heap[k]? =X.heap[k]? :=λk c t i m=>j.block k (iS.1 m).1 (λe=>by
  obtain⟨_,o,p,v⟩:=q k e.symm;rw[m]at p;cases p;cases v)
 refine⟨h.ok,h.bg.bG (a b _ _ _ h.bg),h.st.bG (a bs _ _ _ h.st),bC h.row (λk e=> ?_),h.map.bD (j.block bm h.map.lt (λe=>by have:=(q bm e.symm).1;omega))⟩;rcases h.row.2 with⟨rfl,_⟩|⟨g,s,u,rfl,_,x,_⟩
 ·simp[Value.ownBlock]at e
 ·have f:g=k:=by simpa[Value.ownBlock]using e
  subst f;exact a g _ _ _ x
theorem Ob(w:World)(b bs bm n:Nat)(pv:Value)(base off:Nat)(text:List UInt8)(half jb q:Nat)(d:DD)(B:Nat)(E:w.heap.size<=B)(C:bm<w.heap.size):OwnFrom B (SI w b bs bm n pv base off text half jb q d):=by
 intro s X Y row h j m;obtain⟨dc,p,u,v,x,y,z,A,a⟩:=h;have c:∀k i t,ay X k i t->ay Y k i t:=λk i t f=>(j.block k f.lt (λe=>by
  obtain⟨_,o,r,D⟩:=m k e.symm;rw[show X.heap[k]? =_ from f]at r;cases r;cases D)).trans f
 exact⟨dc,p,u,v,x,Ic y j m (by omega),z.grown j (λk e f=>by have:=(m k e).1;omega),A,c _ _ _ a.1,c _ _ _ a.2.1,c _ _ _ a.2.2.1,c _ _ _ a.2.2.2.1,c _ _ _ a.2.2.2.2.1,c _ _ _ a.2.2.2.2.2.1,c _ _ _ a.2.2.2.2.2.2⟩
def Ha(w:World)(b bs bm n:Nat)(pv:Value)(r:DD×Int)(e:Ending)(w':World):Prop:=
 dD w b bs bm n pv r.1 w'/\((r.2=0/\e= .returned (.tuple #[]))\/(r.2≠0/\e= .panicked (bad r.2)))
end Go.Proofs.YtkmbmfengcdmoaaGreatDoor
