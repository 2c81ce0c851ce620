/- Package journal: store, also where the power fails. Condition: the disk is on. -/
import Derived.Test.YtkmbmfengcdmoaaGreatDoorZAW
import Derived.Shelf.Strings.Builder1
import Derived.Shelf.Strings.Builder2
import Derived.Shelf.Small.Bits
import Derived.Shelf.Small.Strs
import Derived.Shelf.Strings.BuilderF
import Derived.Shelf.Strings.BuilderK
import Derived.Shelf.Strconv.Atoi
import Derived.Shelf.Strconv.Itoa0
import Derived.Shelf.Strconv.Itoa1
import Derived.Shelf.LaysM
import Derived.Shelf.Strconv.Itoa2
import Derived.Shelf.Strconv.Itoa3
import Derived.Shelf.Strconv.AtoiErrFast
import Derived.Shelf.Strconv.ParseIntEmpty
import Derived.Shelf.Strconv.AtoiFail
import Derived.Shelf.Strconv.Clone
import Derived.Shelf.Strconv.SyntaxError
import Derived.Shelf.LaysC
import Derived.Shelf.Strconv.ToError
import Derived.Shelf.Strconv.Lower
import Derived.Shelf.Strconv.ParseUint10
import Derived.Shelf.Strconv.ParseUint10Empty
import Derived.Shelf.Strconv.ParseUint10Any
import Derived.Shelf.Strconv.ParseInt10
import Derived.Shelf.Strconv.AtoiLong
import Derived.Shelf.Strconv.AtoiInnerAll
import Derived.Shelf.Strconv.RangeError
import Derived.Shelf.Strconv.ToErrorRange
import Derived.Shelf.Strconv.AtoiAll
import Derived.Shelf.Strconv.ErrVarAll
import Derived.Shelf.Strings.Search1
import Derived.Shelf.Strings.Search2
import Derived.Shelf.Strings.Cut
import Derived.Shelf.Strings.Shaped
import Derived.Shelf.Strconv.AppendUint10
import Derived.Shelf.Strconv.AppendInt10
import Derived.Shelf.Strconv.AppendIntPublic10
import Derived.Shelf.Strings.Prefix
import Derived.Shelf.Bits.Mul64
import Derived.Shelf.Strings.Repeat
import Derived.Ground.Names2Prog
import Derived.Shelf.Slices.Clone
import Derived.Ground.SlgnProg
import Derived.Shelf.SlicesE.Clone
import Derived.Ground.SlgfProg
import Derived.Shelf.SlicesE.IndexFunc
import Derived.Ground.SlsfProg
import Derived.Shelf.SlSortCmp.Insertion
import Derived.Test.YtkmbmfengcdmoaaGreatDoorProg
import Derived.Test.YtkmbmfengcdmoaaGreatDoorZAV
import Derived.Test.YtkmbmfengcdmoaaGreatDoorZAR
set_option maxRecDepth 100000
set_option linter.all false
namespace Go.Proofs.YtkmbmfengcdmoaaGreatDoor
open Go.RowKit Go.ay Go.Jn Go.Dk Go.Mp Go.Rf Go.Shelf

theorem vH{l:List UInt8}{w w':World}{e:Ending}(h:vX (da l) w e w'):Below w.heap.size w w'/\((da l=none/\e= .returned (.tuple #[.slice none 0 0, .bool false]))\/∃r v,da l=some r/\e= .returned (.tuple #[v, .bool true])/\fY w' w.heap.size v r):=by
 obtain⟨h1,⟨h2,h3⟩|⟨p,v,h2,h3,h4⟩⟩:=h
 ·exact⟨h1, .inl ⟨h2,h3⟩⟩
 ·refine⟨h1, .inr ⟨_,v,h2,h3, ?_⟩⟩;unfold fY;have e1:(Ld p).map tx=p:=by unfold Ld;rw[PS];exact(List.map_congr_left (λx _=>Ks x)).trans (List.map_id p)
  have e2:(Ld p).length=p.length:=by unfold Ld;simp
  rw[e1,e2];exact h4
theorem mi{w:World}{B B':Nat}{rv:Value}{l:List (List UInt8)}(h:fY w B rv l)(hB:B'<=B):fY w B' rv l:=by obtain⟨h1,h2⟩:=h;refine⟨h1,h2.imp id ?_⟩;rintro⟨g,cap,cur,a1,a2,a3⟩;exact⟨g,cap,cur,a1,fO hB a2,a3⟩
theorem Bq{w:World}{B:Nat}{rv:Value}{l:List (List UInt8)}(h:fY w B rv l):∃A n c,rv= .slice A n c:=by
 rcases h.2 with⟨h1,_⟩|⟨g,cap,cur,h1,_⟩
 ·exact⟨_,_,_,h1⟩
 ·exact⟨_,_,_,h1⟩
def GZ(w:World)(jb bw b n:Nat)(d:DD)(e:Ending)(w':World):Prop:=
 e= .returned (.tuple #[])/\aJ (λk=>k=jb\/k=bw) w w'/\
  (((dR n d).2=none/\(dR n d).1=20/\ay w' bw [.bool false] 4)\/
   ∃v a r rv,dR n d=(0,some (v,a,r))/\ay w' bw [.bool true] 4/\ay w' jb (dW v a ((n-2) / 2) b rv false) 189/\fY w' w.heap.size rv r)
set_option maxHeartbeats 3000000 in
theorem Fu{w:World}{jb bj bw b bs bm n:Nat}{pv:Value}{d:DD}(hd:aI w b bs bm pv d n)(hon:d.on=true)(hn:4<=n)(hj:ay w jb (dW (0,0,0) 0 ((n-2) / 2) b (.slice none 0 0) false) 189)
  (hb1:ay w bj [.pointer (some ⟨jb,0,none⟩)] 101) (hb2:ay w bw [.bool false] 4):Calls Tryz.prog 103 #[.pointer (some ⟨bj,0,none⟩), .pointer (some ⟨bw,0,none⟩)] w (GZ w jb bw b n d):=by
 have hn2:=hd.ok.n2;obtain⟨R,eR⟩:=x_ (GZ w jb bw b n d)
 rw[<-eR];have hne:bw≠jb:=by
  rintro rfl
  have:=hj.symm.trans hb2;simp at this
 have hne1:bj≠jb:=by
  rintro rfl
  have:=hj.symm.trans hb1;simp at this
 have hne2:bj≠bw:=by
  rintro rfl
  have:=hb1.symm.trans hb2;simp at this
 have PR:=h_ (zb hd hon hn hj);have HD:=h_ hd;have HJ:=h_ hj;have H1:=h_ hb1;have H2:=h_ hb2;have ER:=h_ eR;have hjF:=h_ (λk (hk:Fp b bs bm pv k) (e:k=jb)=>jG hd hj (by decide) (by decide) (by decide) (e▸hk));have c0:=hb1.ag 0 _ rfl;have HON:=h_ hon;clear hd hj eR hb1 hb2 hon;go_enter Tryz.func103,Tryz.ntmps103;go_wp2_with fail;refine PR.out.mono ?_;rintro e w1 ⟨k1,⟨hp,rfl⟩|⟨v,a,hp,rfl,hj1⟩⟩
 ·have hb:=(H2.out.bG (k1.block bw H2.out.lt hne))
  have f0:=hb.frozen 0;have c1:=hb.ag 0 _ rfl;have g0:w1.cell? ⟨bj,0,none⟩=some (.pointer (some ⟨jb,0,none⟩)):=fL c0 k1 hne1;have FIN:Hid (R (.returned (.tuple #[])) (w1.setCell ⟨bw,0,none⟩ (.bool false))):=by
   rw[ER.out];have eo:dR n d=(20,none):=by unfold dR;rw[if_neg (by rw[HON.out];decide),if_neg (by omega),hp]
   refine⟨rfl,(k1.mono (λk _ h=> .inl h)).setCell (p:=⟨bw,0,none⟩) (λ_=> .inr rfl) _, .inl ⟨by rw[eo],by rw[eo],hb.set 0 _⟩⟩
  clear hb k1;go_wp2_with fail;first
   |exact FIN.out
   |exact bodyPost_ret (results_none rfl _ _ _) rfl FIN.out
   |exact⟨_,rfl,rfl,FIN.out⟩
   |exact⟨_,rfl,FIN.out⟩
 ·have hb:=(H2.out.bG (k1.block bw H2.out.lt hne))
  have f0:=hb.frozen 0;have c1:=hb.ag 0 _ rfl;have g0:w1.cell? ⟨bj,0,none⟩=some (.pointer (some ⟨jb,0,none⟩)):=fL c0 k1 hne1;have HJ1:=h_ hj1;have HP:=h_ hp;have HB:=h_ hb;have kV:aJ (λk=>k=bw) w1 (w1.setCell ⟨bw,0,none⟩ (.bool true)):=(aJ.refl (λk=>k=bw) w1).setCell (p:=⟨bw,0,none⟩) (λ_=>rfl) _;obtain⟨V,eV⟩:=x_ (w1.setCell ⟨bw,0,none⟩ (.bool true))
  have HBW:Hid (ay V bw [.bool true] 4):=by rw[eV];exact hb.set 0 _
  rw[<-eV]at kV;have K1:=h_ ((k1.mono (λk _ h=> .inl h)).trans kV (λk _ h=> .inr h):aJ (λk=>k=jb\/k=bw) w V);have HD1:=h_ ((HD.out.bD k1 hjF.out).bD kV (λk hk e=>jG (HD.out.bD k1 hjF.out) hb (by decide) (by decide) (by decide) (e▸hk)));have HJ1:=h_ (hj1.bG (kV.block jb hj1.lt (nq hne)));have HJB:Hid (ay V bj [.pointer (some ⟨jb,0,none⟩)] 101):=H1.out.bG (K1.out.block bj H1.out.lt (λh=>h.elim hne1 hne2));have CT:=h_ (yl (w:=V.drew) (HD1.out.below (gj V 1)) HON.out hn HJ1.out.drew (fE hp).1 (fE hp).2);have hlen:(half (nc d) ((n-2) / 2) v.2.1 v.2.2).length<=1000000:=by have:=(fE hp).2;unfold half;rw[jQ];omega
  have SP:=h_ (fun(wx:World)=>(Gm (tx (half (nc d) ((n-2) / 2) v.2.1 v.2.2)) wx (by rw[ft];omega)));rw[gH]at SP;have EO:Hid (dR n d=match da (half (nc d) ((n-2) / 2) v.2.1 v.2.2)with
    |none=>(20,none)
    |some r=>(0,some (v,a,r))):=by
   show _=_;unfold dR;rw[if_neg (by rw[HON.out];decide),if_neg (by omega),hp];rfl
  obtain⟨l,el⟩:=x_ (half (nc d) ((n-2) / 2) v.2.1 v.2.2)
  rw[<-el]at CT SP EO;obtain⟨x,ex⟩:=x_ (tx l)
  rw[<-ex]at CT SP;have EVV:=h_ eV;clear hp hj1 hb k1 el ex hlen kV eV;go_wp2_with fail;rw[<-EVV.out];have q0:=HJB.out.ag 0 _ rfl;clear c0 c1 f0 g0;have FK:Hid (∀(w3:World) (rv:Value) (u:Bool),Below V.drew.heap.size V.drew w3->aJ (λk=>k=jb\/k=bw) w ((w3.setCell ⟨jb,6,none⟩ rv).setCell ⟨bw,0,none⟩ (.bool u))/\ay ((w3.setCell ⟨jb,6,none⟩ rv).setCell ⟨bw,0,none⟩ (.bool u)) bw [.bool u] 4/\ay ((w3.setCell ⟨jb,6,none⟩ rv).setCell ⟨bw,0,none⟩ (.bool u)) jb (dW v a ((n-2) / 2) b rv false) 189):=λw3 rv u hb=>by
   have k3:aJ (λk=>k=jb\/k=bw) w w3:=K1.out.trans (G:=λ_=>False) (aJ.aY (show Below V.heap.size V w3 from⟨hb.os,hb.tape,hb.output,hb.size,hb.block⟩)) (λ_ _ f=>f.elim);have hw3:=HBW.out.drew.below hb HBW.out.lt;have hj3:=HJ1.out.drew.below hb HJ1.out.lt;exact⟨(k3.setCell (p:=⟨jb,6,none⟩) (λ_=> .inl rfl) _).setCell (p:=⟨bw,0,none⟩) (λ_=> .inr rfl) _,(hw3.cL (a:=⟨jb,6,none⟩) (nq hne) rv).set 0 _,(hj3.set 6 rv).cL (a:=⟨bw,0,none⟩) hne _⟩
  cases hs:da l with
  |none=>
   have SN:Hid (∀wx,Calls Tryz.prog 105 #[.string x] wx λe w'=>e= .returned (.tuple #[.slice none 0 0, .bool false])/\Below wx.heap.size wx w'):=λwx=>by
    refine(SP.out wx).mono λe w' h=> ?_
    obtain⟨h1,⟨_,h3⟩|⟨r,v,h2,_,_⟩⟩:=vH h
    ·exact⟨h3,h1⟩
    ·rw[hs]at h2;cases h2
   have EO2:Hid (dR n d=(20,none)):=by have:=EO.out;rw[hs]at this;exact this
   have FIN:Hid (∀w3,Below V.drew.heap.size V.drew w3->R (.returned (.tuple #[])) ((w3.setCell ⟨jb,6,none⟩ (.slice none 0 0)).setCell ⟨bw,0,none⟩ (.bool false))):=λw3 hb=>by
    obtain⟨h1,h2,_⟩:=FK.out w3 (.slice none 0 0) false hb;rw[ER.out];exact⟨rfl,h1, .inl ⟨by rw[EO2.out],by rw[EO2.out],h2⟩⟩
   clear SP EO hs
   go_region_with (first
    |(refine CT.out.mono ?_;rintro e w2 ⟨rfl,hb2⟩;have q0:=HJB.out.drew.below hb2 HJB.out.lt;have q0:=q0.ag 0 _ rfl)
    |(refine(SN.out _).mono ?_;rintro e w3 ⟨rfl,hb3⟩;have hb23:=hb2.trans (hb3.mono hb2.size);have q0:=HJB.out.drew.below hb23 HJB.out.lt;have q0:=q0.ag 0 _ rfl;have hj3:=HJ1.out.drew.below hb23 HJ1.out.lt;have c6:=hj3.ag 6 _ rfl;have f6:=hj3.frozen 6;have hw3:=HBW.out.drew.below hb23 HBW.out.lt;have cw:=hw3.ag 0 _ rfl;have fw:=hw3.frozen 0))
   all_goals (have G:=h_ (FIN.out _ hb23);clear hb23 c6 f6 cw fw hj3 hw3;go_end0;exact G.out)
  |some r=>
   have SN:Hid (∀wx,Calls Tryz.prog 105 #[.string x] wx λe w'=> ∃rv,e= .returned (.tuple #[rv, .bool true])/\Below wx.heap.size wx w'/\fY w' wx.heap.size rv r):=λwx=>by
    refine(SP.out wx).mono λe w' h=> ?_
    obtain⟨h1,⟨h2,_⟩|⟨r',v',h2,h3,h4⟩⟩:=vH h
    ·rw[hs]at h2;cases h2
    ·rw[hs]at h2;cases h2
     exact⟨v',h3,h1,h4⟩
   have EO2:Hid (dR n d=(0,some (v,a,r))):=by have:=EO.out;rw[hs]at this;exact this
   have FIN:Hid (∀w3 rv,Below V.drew.heap.size V.drew w3->fY w3 V.heap.size rv r->R (.returned (.tuple #[])) ((w3.setCell ⟨jb,6,none⟩ rv).setCell ⟨bw,0,none⟩ (.bool true))):=λw3 rv hb hr=>by
    obtain⟨h1,h2,h3⟩:=FK.out w3 rv true hb;rw[ER.out];have hlj:jb<V.heap.size:=HJ1.out.lt;have hlw:bw<V.heap.size:=HBW.out.lt;have hr2:fY ((w3.setCell ⟨jb,6,none⟩ rv).setCell ⟨bw,0,none⟩ (.bool true)) V.heap.size rv r:=hr.bD λk hk=>by
     have hge:=(World.ownsRow.lt hr k hk).1;rw[Below.heap_setCell _ _ _ _ (by show k≠bw;omega),Below.heap_setCell _ _ _ _ (by show k≠jb;omega)]
    exact⟨rfl,h1, .inr ⟨v,a,r,rv,EO2.out,h2,h3,mi hr2 K1.out.size⟩⟩
   clear SP EO hs
   go_region_with (first
    |(refine CT.out.mono ?_;rintro e w2 ⟨rfl,hb2⟩;have q0:=HJB.out.drew.below hb2 HJB.out.lt;have q0:=q0.ag 0 _ rfl)
    |(refine(SN.out _).mono ?_;rintro e w3 ⟨rv,rfl,hb3,hr3⟩;have hb23:=hb2.trans (hb3.mono hb2.size);have HR3:=h_ (mi hr3 hb2.size);clear hr3;have q0:=HJB.out.drew.below hb23 HJB.out.lt;have q0:=q0.ag 0 _ rfl;have hj3:=HJ1.out.drew.below hb23 HJ1.out.lt;have c6:=hj3.ag 6 _ rfl;have f6:=hj3.frozen 6;have hw3:=HBW.out.drew.below hb23 HBW.out.lt;have cw:=hw3.ag 0 _ rfl;have fw:=hw3.frozen 0;obtain⟨Ar,lr,cr,rfl⟩:=Bq HR3.out))
   all_goals (have G:=h_ (FIN.out _ _ hb23 HR3.out);clear hb23 c6 f6 cw fw hj3 hw3 HR3;go_end0;exact G.out)
end Go.Proofs.YtkmbmfengcdmoaaGreatDoor
namespace Go.Proofs
open Go.Shelf
def Tryz.ur:Go.Shelf.Ren:=⟨fun|16=>107|n=>n,fun|24=>137|9=>9|4=>4|n=>n,fun|n=>n⟩
theorem Tryz.u7:Go.Proofs.Lays2.n16 Tryz.prog Tryz.ur:= {
 mixed:=by kernel_rfl
 f16:=Tryz.func107.trans (congrArg some (by kernel_rfl))
 t4:=Tryz.underlying4
 a4:=Tryz.isAgg4
 z4:=Tryz.sizeOf4
 v4:=Tryz.zeroValue4
 t9:=Tryz.underlying9
 a9:=Tryz.isAgg9
 z9:=Tryz.sizeOf9
 v9:=Tryz.zeroValue9
 t24:=Tryz.underlying137
 a24:=Tryz.isAgg137
 z24:=Tryz.sizeOf137
 v24:=Tryz.zeroValue137
 i9:=by kernel_rfl}
open Go.RowKit Go.Lib in
theorem Tryz.slices_Clone_string(b off n c:Nat)(zs:List ByteArray)(w:World)(hz:n<=zs.length)(hbig:n*16<=140737488355328)(hc:∀j,j<zs.length->w.cell? ⟨b,off+j,none⟩=some (.string (zs.getD j ByteArray.empty))):
  Calls Tryz.prog 107 #[.slice (some ⟨b,off,none⟩) n c] w λe w'=> ∃v',e= .returned v'/\w'.ownsRow w.heap.size 9 1 v' n ((zs.take n).map (Value.string))/\v'≠ .slice none 0 0/\Below w.heap.size w w':=Any.slices_Clone_string Tryz.u7 b off n c zs w hz hbig hc
open Go.RowKit Go.Lib in
theorem Tryz.slices_Clone_string_nil(n c:Nat)(w:World):
  Calls Tryz.prog 107 #[.slice none n c] w λe w'=>e= .returned (.slice none 0 0)/\w'=w:=Any.slices_Clone_string_nil Tryz.u7 n c w
end Go.Proofs
namespace Go.Proofs.YtkmbmfengcdmoaaGreatDoor
open Go.RowKit Go.ay Go.Jn Go.Dk Go.Mp Go.Rf Go.Shelf

theorem yC(l:List (List UInt8)):(l.map tx).flatMap lR=(l.map tx).map Value.string:=by
 induction l with
 |nil=>rfl
 |cons x l ih=>rw[xJ,BZ,ih];rfl
theorem Ei{w:World}{base:Nat}{rv:Value}{l:List (List UInt8)}(h:fY w base rv l)(hl:l.length<=1000000):
  Calls Tryz.prog 107 #[rv] w λe w'=> ∃A c,e= .returned (.slice A l.length c)/\fY w' w.heap.size (.slice A l.length c) l/\Below w.heap.size w w':=by
 rcases h.2 with⟨h1,h2⟩|⟨g,cap,cur,h1,_⟩
 ·rw[h1];refine(Tryz.slices_Clone_string_nil 0 0 w).mono ?_;rintro e w' ⟨rfl,rfl⟩;have hl0:l= []:=Ky.1 h2;subst hl0;exact⟨none,0,rfl,World.ownsRow_nil _ _ _ _,Below.refl _ _⟩
 ·subst h1;have hc:=λj hj=>World.ownsRow.cellAt h j hj
  refine(Tryz.slices_Clone_string g 0 l.length cap (l.map tx) w (by simp) (by omega) (λj hj=> ?_)).mono ?_
  ·have hj':j<l.length:=by simpa using hj
   have:=hc j (by omega);rw[yC]at this;rw[nW,this,mx,BX];rw[eH (by simpa using hj')];rfl
  ·rintro e w' ⟨v',rfl,ho,_,hb⟩;have ho2:fY w' w.heap.size v' l:=by unfold fY;rw[yC];rw[np (by simp)]at ho;exact ho
   rcases ho2.2 with⟨h1,h2⟩|⟨g',cap',cur',h1,_⟩
   ·exact⟨none,0,by rw[h1,h2],by rw[h2, <-h1];exact ho2,hb⟩
   ·exact⟨_,_,by rw[h1],by rw[<-h1];exact ho2,hb⟩
def G5(w:World)(b bs bm n:Nat)(pv:Value)(d:DD)(e:Ending)(w':World):Prop:=
 Below w.heap.size w w'/\(((dR n d).2=none/\e= .returned (.tuple #[.pointer none, .slice none 0 0, .int .i64 (dR n d).1]))\/
  ∃v a r jb rv A c,dR n d=(0,some (v,a,r))/\e= .returned (.tuple #[.pointer (some ⟨jb,0,none⟩), .slice A r.length c, .int .i64 0])/\
   Cc w' jb b bs bm pv rv n ⟨d,v,a,r,false⟩/\w.heap.size<=jb/\(∀k,rv.ownBlock=some k->w.heap.size<=k)/\
   fY w' w.heap.size (.slice A r.length c) r/\(∀k,(Value.slice A r.length c).ownBlock=some k-> ¬pD jb b bs bm pv rv k))
theorem zl:∀l:List (List UInt8),4*l.length<=dG l
 | []=>gu _
 |b::l=>by
  have:=zl l;show 4*(l.length+1)<=4+b.length+dG l;omega
def N7(V:World)(jb bj bw b n:Nat)(d:DD)(e:Ending)(w':World):Prop:=
 e= .returned (.int .i64 0)/\aJ (λk=>k=jb\/k=bw) V w'/\ay w' bj [.pointer (some ⟨jb,0,none⟩)] 101/\
  (((dR n d).2=none/\(dR n d).1=20/\ay w' bw [.bool false] 4)\/
   ∃v a r rv,dR n d=(0,some (v,a,r))/\ay w' bw [.bool true] 4/\ay w' jb (dW v a ((n-2) / 2) b rv false) 189/\fY w' V.heap.size rv r)
set_option maxHeartbeats 1000000 in
theorem Jv{w:World}{b bs bm n:Nat}{pv:Value}{d:DD}(hd:aI w b bs bm pv d n):Calls Tryz.prog 65 #[.pointer (some ⟨b,0,none⟩)] w (G5 w b bs bm n pv d):=by
 have hn2:=hd.ok.n2;have hn1:=hd.ok.n1;obtain⟨R,eR⟩:=x_ (G5 w b bs bm n pv d)
 rw[<-eR];have RD:=h_ (oW hd 0);have FB:Hid (∀c w',dR n d=(c,none)->Below w.heap.size w w'->R (.returned (.tuple #[.pointer none, .slice none 0 0, .int .i64 c])) w'):=λc w' h hb=>by
  rw[eR];exact⟨hb, .inl ⟨by rw[h],by rw[h]⟩⟩
 cases hon:d.on with
 |false=>
  have e1:DD.read n d 0=([],21):=by unfold DD.read;rw[if_neg (by rw[hon];decide)]
  rw[e1]at RD;have F:=h_ (FB.out 21 w (by unfold dR;rw[if_pos hon]) (Below.refl _ _));clear FB eR hd hon e1;go_enter Tryz.func65,Tryz.ntmps65;go_wp2_with fail;refine RD.out.mono ?_;rintro e w' ⟨rfl,rfl⟩;go_wp2_with fail;exact bodyPost_ret (v:= .tuple #[.pointer none, .slice none 0 0, .int .i64 21]) (by simp[results,Tryz.results65,go_sem]) rfl F.out
 |true=>
  have e1:=(Cp hd.ok hon (s:=0) (by omega))
  have e2:(DD.read n d 0).2=0:=e1.1;rw[e2]at RD;obtain⟨x,ex⟩:=x_ (⟨(DD.read n d 0).1.toArray⟩:ByteArray)
  rw[<-ex]at RD;have CN:=h_ (Ek hd hon);have HD:=h_ hd;have HON:=h_ hon;have ER:=h_ eR;clear e1 e2 ex hd hon eR;by_cases hn4:n<4
  ·have t1:decide ((n:Int)<4)=true:=dt (by omega);have F:=h_ (λw' hb=>FB.out 1 w' (by unfold dR;rw[if_neg (by rw[HON.out];decide),if_pos hn4]) hb);clear FB ER;go_enter Tryz.func65,Tryz.ntmps65;go_wp2_with fail;refine RD.out.mono ?_;rintro e w' ⟨rfl,rfl⟩;go_wp2_with fail;refine CN.out.mono ?_;rintro e w' ⟨rfl,hb⟩;have G:=h_ (F.out _ hb);clear hb;go_wp2_with fail;exact bodyPost_ret (v:= .tuple #[.pointer none, .slice none 0 0, .int .i64 1]) (by simp[results,Tryz.results65,go_sem]) rfl G.out
  ·have t1:decide ((n:Int)<4)=false:=dy (by omega);obtain⟨size,es⟩:=x_ ((n-2) / 2)
   have hq:((n:Int)-2) / 2=(size:Int):=by omega
   have ES:=h_ es;clear es;have hmf:∀(fn:Fn) (first cap:Array Value) (w:World),(Instr.makeFunc fn first cap).run Tryz.prog w= .ok (.func fn first cap) w:=λ_ _ _ _=>rfl
   go_enter Tryz.func65,Tryz.ntmps65;go_wp2_with fail;refine RD.out.mono ?_;rintro e w' ⟨rfl,rfl⟩;go_wp2_with fail;refine CN.out.mono ?_;rintro e w1 ⟨rfl,hb1⟩;have HB1:=h_ hb1;clear hb1;go_wp2_with fail;obtain⟨V,eV⟩:=x_ (((w1.alloc (.cells #[.int .i64 0, .int .i64 0, .int .i64 0, .int .i64 0, .int .i64 (size:Int), .pointer (some ⟨b,0,none⟩), .slice none 0 0, .bool false] 189)).alloc (.cells #[.pointer (some ⟨w1.heap.size,0,none⟩)] 101)).alloc (.cells #[.bool false] 4))
   have HBV:Hid (Below w1.heap.size w1 V):=by rw[eV];exact(((Below.refl _ w1).alloc (aL _) _).alloc (by simp) _).alloc (by simp;omega) _
   have kJ:Hid (ay V w1.heap.size (dW (0,0,0) 0 ((n-2) / 2) b (.slice none 0 0) false) 189):=by rw[eV, <-ES.out];exact((ay.new w1 _ _).alloc _).alloc _
   have kP:Hid (ay V (w1.heap.size+1) [.pointer (some ⟨w1.heap.size,0,none⟩)] 101):=by rw[eV];exact(ay.made (by simp) rfl).alloc _
   have kW:Hid (ay V (w1.heap.size+1+1) [.bool false] 4):=by rw[eV];exact ay.made (by simp) rfl
   have VS:Hid (V.heap.size=w1.heap.size+3):=by show _=_;rw[eV];simp
   rw[<-eV];clear eV;refine(DP (g:=103) (N7 V w1.heap.size (w1.heap.size+1) (w1.heap.size+1+1) b n d) (enters_of Tryz.func103 (by kernel_rfl) rfl) (by have:=VS.out;omega) ?_).mono ?_
   ·have TB:Below V.heap.size V ((V.alloc (.cells #[.pointer (some ⟨w1.heap.size,0,none⟩)] 101)).alloc (.cells #[.int .i64 0] 52)):=((Below.refl _ V).alloc (aL _) _).alloc (by simp) _;have hdV:=(HD.out.below HB1.out).below HBV.out;refine(Fu (hdV.below TB) HON.out (by omega) (kJ.out.below TB kJ.out.lt) (kP.out.below TB kP.out.lt) (kW.out.below TB kW.out.lt)).mono ?_;rintro e w2 ⟨rfl,hk,hc⟩;have t1:=((ay.new V [.pointer (some ⟨w1.heap.size,0,none⟩)] 101).alloc (.cells #[.int .i64 0] 52))
    have t2:ay ((V.alloc (.cells #[.pointer (some ⟨w1.heap.size,0,none⟩)] 101)).alloc (.cells #[.int .i64 0] 52)) (V.heap.size+1) [.int .i64 0] 52:=ay.made (by simp) rfl;refine⟨t1.bG (hk.block _ t1.lt (by have:=VS.out;omega)),t2.bG (hk.block _ t2.lt (by have:=VS.out;omega)), .inl ⟨rfl, ?_⟩⟩;have hk2:aJ (λk=>k=w1.heap.size\/k=w1.heap.size+1+1) V (w2.setCell ⟨V.heap.size+1,0,none⟩ (.int .i64 0)):=(aJ.trans (F:=λk=>k=w1.heap.size\/k=w1.heap.size+1+1) (aJ.aY TB) hk (λ_ _ f=>f)).setCell (p:=⟨V.heap.size+1,0,none⟩) (λh=>absurd h (by show ¬V.heap.size+1<V.heap.size;omega)) _;have hs:=VS.out;have hp2:=hk2.block (w1.heap.size+1) kP.out.lt (by omega);refine⟨rfl,hk2,kP.out.bG hp2, ?_⟩;rcases hc with⟨c1,c2,c3⟩|⟨v,a,r,rv,c1,c2,c3,c4⟩
    ·exact .inl ⟨c1,c2,c3.cL (a:=⟨V.heap.size+1,0,none⟩) (by show V.heap.size+1≠_;omega) _⟩
    ·refine .inr ⟨v,a,r,rv,c1,c2.cL (a:=⟨V.heap.size+1,0,none⟩) (by show V.heap.size+1≠_;omega) _,c3.cL (a:=⟨V.heap.size+1,0,none⟩) (by show V.heap.size+1≠_;omega) _,mi (fY.bD c4 λk hk=> ?_) TB.size⟩
     have:=(World.ownsRow.lt c4 k hk).1;exact Below.heap_setCell _ _ _ _ (by show k≠V.heap.size+1;simp at this;omega)
   ·rintro e w3 ⟨rfl,hk,hbj,⟨c1,c2,hbw⟩|⟨v,a,r,rv,c1,hbw,hbb,hrow⟩⟩
    ·have hB3:Below w.heap.size w w3:=by have h1:=HB1.out.trans (HBV.out.mono HB1.out.size);exact h1.trans (hk.below (λk h=>by have:=HB1.out.size;omega) h1.size)
     have G:=h_ (FB.out 20 w3 (by rw[<-c1, <-c2]) hB3);have cw:=hbw.ag 0 _ rfl;clear hk hbj hbw c1 c2 hB3;go_wp2_with fail;exact bodyPost_ret (v:= .tuple #[.pointer none, .slice none 0 0, .int .i64 20]) (by simp[results,Tryz.results65,go_sem]) rfl G.out
    ·have hB3:Below w.heap.size w w3:=by have h1:=HB1.out.trans (HBV.out.mono HB1.out.size);exact h1.trans (hk.below (λk h=>by have:=HB1.out.size;omega) h1.size)
     have HK:=h_ hk;have HD3:Hid (aI w3 b bs bm pv d n):=((HD.out.below HB1.out).below HBV.out).bD hk (λk hf=>by have:=HD.out.lt hf;have:=HB1.out.size;omega);have HP3:=h_ hbj;have HJ3:=h_ hbb;have HR3:=h_ hrow;have HB3:=h_ hB3;have EO:=h_ c1;have hf:=AH c1;have HF:=h_ hf;have CL:=h_ (Ei (w:=w3.drew) hrow (by
      have h1:=uX (mD HD.out.ok) hf.2.2.2;have h2:=(fE hf.2.2.2.mY).2;have h3:=zl r;omega))
     have cw:=hbw.ag 0 _ rfl;have c0:=hbj.ag 0 _ rfl;have c6:=hbb.ag 6 _ rfl;obtain⟨Ar,lr,cr,rfl⟩:=Bq hrow;clear hk hbj hbb hrow hbw c1 hB3 hf;go_wp2_with fail;have FIN:Hid (∀(w4:World) (A:Option Addr) (c:Nat),fY w4 w3.drew.heap.size (.slice A r.length c) r->Below w3.drew.heap.size w3.drew w4->R (.returned (.tuple #[.pointer (some ⟨w1.heap.size,0,none⟩), .slice A r.length c, .int .i64 0])) w4):=λw4 A c hr hb=>by
      rw[ER.out];have hb':Below w3.heap.size w3 w4:=⟨hb.os,hb.tape,hb.output,hb.size,hb.block⟩
      have h3:=HR3.out;have hrng:=fE HF.out.2.2.2.mY;have hs1:=HB1.out.size;have hs3:=HB3.out.size;have hj:Cc w3 w1.heap.size b bs bm pv (.slice Ar lr cr) n ⟨d,v,a,r,false⟩:=
       ⟨by omega,HD3.out,HJ3.out,mi h3 (gu _),JI HF.out.2.2.2.mY,hrng.1,hrng.2,show a<=1 from(wU HF.out.2.2.2.mY).elim (λh=>by omega) (λh=>by omega)⟩
      refine⟨HB3.out.trans (hb'.mono hs3), .inr ⟨v,a,r,w1.heap.size,_,A,c,EO.out,rfl,hj.below hb',hs1,λk hk=> ?_,mi hr hs3,λk hk hf=> ?_⟩⟩
      ·have:=(World.ownsRow.lt h3 k hk).1;have hv:=HBV.out.size;omega
      ·have h1:=(World.ownsRow.lt hr k hk).1;have h2:k<w3.heap.size:=hj.lt hf;have h4:w3.heap.size<=k:=h1;omega
     clear FB
     go_region_with (refine CL.out.mono ?_;rintro e w4 ⟨A4,c4,rfl,hr4,hb4⟩;have hp4:=HP3.out.drew.below hb4 HP3.out.lt;have c0:=hp4.ag 0 _ rfl)
     all_goals (have G:=h_ (FIN.out _ _ _ hr4 hb4);clear hr4 hb4 hp4 c0;go_wp2_with fail;exact bodyPost_ret (v:= .tuple #[.pointer (some ⟨w1.heap.size,0,none⟩), .slice A4 r.length c4, .int .i64 0]) (by simp[results,Tryz.results65,go_sem]) rfl G.out)
attribute [local go_sem] Oper.semAt_some
def dD(w:World)(b bs bm n:Nat)(pv:Value)(d:DD)(w':World):Prop:=
 ∃bm' pv',aI w' b bs bm' pv' d n/\aJ (Fp b bs bm pv) w w'/\(bm'=bm\/w.heap.size<=bm')/\(∀k,pv'.ownBlock=some k->pv.ownBlock=some k\/w.heap.size<=k)
section
variable {w w1 w2:World} {b bs bm bm1 n:Nat} {pv pv1:Value} {d:DD}
theorem dD.after(k:aJ (Fp b bs bm pv) w w1)(h1:bm1=bm\/w.heap.size<=bm1)(h2:∀k,pv1.ownBlock=some k->pv.ownBlock=some k\/w.heap.size<=k)(h:dD w1 b bs bm1 n pv1 d w2):dD w b bs bm n pv d w2:=by
 obtain⟨bm',pv',a1,a2,a3,a4⟩:=h;refine⟨bm',pv',a1,k.trans a2 (λi hi f=>iY h1 h2 i hi f), ?_,λj hj=> ?_⟩
 ·rcases a3 with rfl|h
  ·exact h1
  ·exact .inr (fO k.size h)
 ·rcases a4 j hj with h|h
  ·exact h2 j h
  ·exact .inr (fO k.size h)
end
def ji(W:World)(g:Nat)(l:List UInt8):Prop:=∃(rest:List Value) (m:Nat),W.heap[g]? =some (.cells (l.map C8++rest).toArray 5 (m,m+1))/\m=l.length+rest.length
section
variable {W W':World} {g:Nat} {l:List UInt8}
theorem ji.cell(h:ji W g l)(i:Nat)(hi:i<l.length):W.cell? ⟨g,i,none⟩=some (C8 l[i]):=by obtain⟨r,m,h1,_⟩:=h;simp only[World.cell?,h1];simp[hi,xL]
theorem ji.frozen(h:ji W g l)(i:Nat)(hi:i<l.length):W.frozen? ⟨g,i,none⟩=false:=by obtain⟨r,m,h1,h2⟩:=h;simp[World.frozen?,h1];omega
theorem ji.set(h:ji W g l)(i:Nat)(hi:i<l.length)(x:UInt8):ji (W.setCell ⟨g,i,none⟩ (C8 x)) g (l.set i x):=by obtain⟨r,m,h1,h2⟩:=h;refine⟨r,m, ?_,by simpa using h2⟩;simp only[World.setCell,vS,uf,h1,GK];congr 2;simp[hi]
theorem ji.bD(h:ji W g l)(hk:W'.heap[g]? =W.heap[g]?):ji W' g l:=by obtain⟨r,m,h1,h2⟩:=h;exact⟨r,m,hk.trans h1,h2⟩
theorem ji.lt(h:ji W g l):g<W.heap.size:=by obtain⟨r,m,h1,_⟩:=h;exact(iS.1 h1).1
end
theorem Hp(W:World)(x:List UInt8):∃cap,ji (W.drew.alloc (.cells (bytesRow (tx x) (grownCap W (tx x).size 0 5)) 5 ((bytesRow (tx x) (grownCap W (tx x).size 0 5)).size,(bytesRow (tx x) (grownCap W (tx x).size 0 5)).size+1))) W.heap.size x/\cap=grownCap W (tx x).size 0 5:=by
 refine⟨_,⟨List.replicate (grownCap W (tx x).size 0 5- (tx x).size) (.int .u8 0),(bytesRow (tx x) (grownCap W (tx x).size 0 5)).size, ?_, ?_⟩,rfl⟩
 ·show(W.heap.push _)[W.heap.size]? =_;rw[Array.getElem?_push_size];congr 2;simp[bytesRow,tx,C8]
 ·simp[bytesRow,tx]
def ma(t:List UInt8)(start off:Nat)(text:List UInt8)(i:Nat):List UInt8:=(patch t start off text).take i++t.drop i
theorem iu(t:List UInt8)(start off:Nat)(text:List UInt8)(i:Nat):(ma t start off text i).length=t.length:=by unfold ma;rw[fu,jQ,zS,dX];omega
theorem FH(t:List UInt8)(start off:Nat)(text:List UInt8):ma t start off text 0=t:=by unfold ma;simp
theorem JD(t:List UInt8)(start off:Nat)(text:List UInt8)(i:Nat)(h:t.length<=i):ma t start off text i=patch t start off text:=by unfold ma;rw[np (by rw[dX];exact h),List.drop_eq_nil_of_le h,DS]
theorem rO(t:List UInt8)(start off:Nat)(text:List UInt8)(i p:Nat)(hp:p<t.length):(ma t start off text i)[p]? =if p<i then(patch t start off text)[p]? else t[p]? :=by
 unfold ma;by_cases h:p<i
 ·rw[if_pos h,xL (by rw[jQ,dX];omega),qC,if_pos h]
 ·rw[if_neg h,BW (by rw[jQ,dX];omega),jQ,dX,GI];congr 1;omega
theorem Mu{t:List UInt8}{start off:Nat}{text:List UInt8}{i:Nat}{c:UInt8}(hi:i<t.length)(h1:off<=start+i)(hc:text[start+i-off]? =some c):ma t start off text (i+1)=(ma t start off text i).set i c:=by
 have h2:start+i-off<text.length:=(jS.1 hc).1;apply rC;intro p;by_cases hp:p<t.length
 ·rw[rO _ _ _ _ _ _ hp];by_cases e:p=i
  ·subst e;rw[if_pos (by omega),oT _ _ _ _ _ hp,if_pos (by omega),hc,Sk (by rw[iu];exact hp)]
  ·rw[List.getElem?_set_ne (by omega),rO _ _ _ _ _ _ hp];by_cases h:p<i
   ·rw[if_pos (by omega),if_pos h]
   ·rw[if_neg (by omega),if_neg h]
 ·rw[pz (by rw[iu];omega),pz (by rw[List.length_set,iu];omega)]
theorem y9{t:List UInt8}{start off:Nat}{text:List UInt8}{i:Nat}(hi:i<t.length)(h: ¬(off<=start+i/\start+i<off+text.length)):ma t start off text (i+1)=ma t start off text i:=by
 apply rC;intro p;by_cases hp:p<t.length
 ·rw[rO _ _ _ _ _ _ hp,rO _ _ _ _ _ _ hp];by_cases e:p=i
  ·subst e;rw[if_pos (by omega),if_neg (by omega),oT _ _ _ _ _ hp,if_neg h]
  ·by_cases h:p<i
   ·rw[if_pos (by omega),if_pos h]
   ·rw[if_neg (by omega),if_neg h]
 ·rw[pz (by rw[iu];omega),pz (by rw[iu];omega)]
def SI(w:World)(b bs bm n:Nat)(pv:Value)(base off:Nat)(text:List UInt8)(half jb q:Nat)(d:DD)(pre:List Nat)(W:World):Prop:=
 ∃dc pv',(∀rest,cA n base off text (pre++rest) d=cA n base off text rest dc)/\dc.on=d.on/\dc.aF.length<=d.aF.length+pre.length/\
  aI W b bs bm pv' dc n/\aJ (Fp b bs bm pv) w W/\(∀k,pv'.ownBlock=some k->pv.ownBlock=some k\/w.heap.size<=k)/\
  ay W w.heap.size [.pointer (some ⟨jb,0,none⟩)] 101/\ay W (w.heap.size+1) [.int .i64 (off:Int)] 3/\ay W (w.heap.size+2) [.string (tx text)] 9/\
  ay W (q+3) [.int .i64 (text.length:Int)] 3/\ay W (q+2) [.int .i64 (off:Int)] 3/\ay W (q+1) [.int .i64 (half:Int)] 3/\ay W q [.pointer (some ⟨jb,0,none⟩)] 101
theorem Ic{X Y:World}{b bs bm n B:Nat}{pv:Value}{d:DD}{row:Option Nat}(h:aI X b bs bm pv d n)(hg:X.grownBy Y row)(hr:∀r,row=some r->B<=r/\∃o:Obj,X.heap[r]? =some o/\o.isCells=false)(hB:bm<B):aI Y b bs bm pv d n:=by
 have hne:∀k c t fz,X.heap[k]? =some (Obj.cells c t fz)->Y.heap[k]? =X.heap[k]? :=λk c t fz hk=>hg.block k (iS.1 hk).1 (λe=>by
  obtain⟨_,o,ho,hc⟩:=hr k e.symm;rw[hk]at ho;cases ho;cases hc)
 refine⟨h.ok,h.bg.bG (hne b _ _ _ h.bg),h.st.bG (hne bs _ _ _ h.st),bC h.row (λk e=> ?_),h.map.bD (hg.block bm h.map.lt (λe=>by have:=(hr bm e.symm).1;omega))⟩;rcases h.row.2 with⟨rfl,_⟩|⟨g,cap,cur,rfl,_,hh,_⟩
 ·simp[Value.ownBlock]at e
 ·have hgk:g=k:=by simpa[Value.ownBlock]using e
  subst hgk;exact hne g _ _ _ hh
theorem Ob(w:World)(b bs bm n:Nat)(pv:Value)(base off:Nat)(text:List UInt8)(half jb q:Nat)(d:DD)(B:Nat)(hB:w.heap.size<=B)(hbm:bm<w.heap.size):OwnFrom B (SI w b bs bm n pv base off text half jb q d):=by
 intro s X Y row h hg hr;obtain⟨dc,pv',h1,h2,h3,h4,h5,h6,h7⟩:=h;have hb:∀k cs t,ay X k cs t->ay Y k cs t:=λk cs t hk=>(hg.block k hk.lt (λe=>by
  obtain⟨_,o,ho,hc⟩:=hr k e.symm;rw[show X.heap[k]? =_ from hk]at ho;cases ho;cases hc)).trans hk
 exact⟨dc,pv',h1,h2,h3,Ic h4 hg hr (by omega),h5.grown hg (λk e hk=>by have:=(hr k e).1;omega),h6,hb _ _ _ h7.1,hb _ _ _ h7.2.1,hb _ _ _ h7.2.2.1,hb _ _ _ h7.2.2.2.1,hb _ _ _ h7.2.2.2.2.1,hb _ _ _ h7.2.2.2.2.2.1,hb _ _ _ h7.2.2.2.2.2.2⟩
def Ha(w:World)(b bs bm n:Nat)(pv:Value)(r:DD×Int)(e:Ending)(w':World):Prop:=
 dD w b bs bm n pv r.1 w'/\((r.2=0/\e= .returned (.tuple #[]))\/(r.2≠0/\e= .panicked (bad r.2)))
end Go.Proofs.YtkmbmfengcdmoaaGreatDoor
