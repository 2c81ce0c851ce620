/- What the iterators' texts lean on. No condition. -/
import Derived.Test.YtkmbmfengcdmoaaGreatDoorZBC
import Derived.Deep.QuietTactic
import Derived.BigQuiet
import Derived.Test.YtkmbmfengcdmoaaGreatDoorZAJ
import Derived.Test.YtkmbmfengcdmoaaGreatDoorZAA
import Derived.Test.YtkmbmfengcdmoaaGreatDoorZAI
import Derived.Test.YtkmbmfengcdmoaaGreatDoorZAK
import Derived.Test.YtkmbmfengcdmoaaGreatDoorZAH
set_option maxRecDepth 100000
set_option linter.all false
namespace Go.Proofs.YtkmbmfengcdmoaaGreatDoor
open Go.RowKit Go.ay Go.Jn Go.Dk Go.Ho Go.Opn Go.Maps Go.WideMaps Go.Apl Go.Mg
def G8(W:World)(l:List aV)(e:Ending)(w':World):Prop:=
 ∃g c,e= .returned (.slice (some ⟨g,0,none⟩) l.length c)/\l.length<=c/\c<=maxLen/\w'.ownsRow W.heap.size 42 7 (.slice (some ⟨g,0,none⟩) l.length c) l.length (l.flatMap aK)/\SL w' 7 aK (some ⟨g,0,none⟩) l/\Below W.heap.size W w'
theorem gV{α:Type}{ec:α->List Value}{d:Nat}{w:World}{base:Nat}{e:TypeId}{v:Value}{l:List α}(b:∀x,(ec x).length=d)(h:w.ownsRow base e d v l.length (l.flatMap ec)):∃A c,v= .slice A l.length c/\l.length<=c/\SL w d ec A l:=by
 by_cases f:l= []
 ·obtain⟨A,c,rfl⟩:=fG h;subst f;exact⟨A,c,rfl,gu _,SL.nil⟩
 ·obtain⟨g,a,i,rfl,_,_,j,_,_,k⟩:=tm b h f;exact⟨_,a,rfl,j,k⟩
def G9(k:Nat)(v:Value):Prop:=∃g c,v= .slice (some ⟨g,0,none⟩) k c/\k<=c/\c<=maxLen
theorem J6{w:World}{base:Nat}{e:TypeId}{l k:Nat}{v:Value}{m:List Value}(h:w.ownsRow base e l v k m)(j:k≠0):G9 k v:=by
 obtain⟨_,⟨_,c⟩|⟨g,a,b,d,n,o,f,i,p⟩⟩:=h
 ·exact absurd c j
 ·exact⟨g,a,d,f,i⟩
theorem Mr{α:Type}{ec:α->List Value}{d:Nat}{w:World}{base:Nat}{e:TypeId}{v:Value}{l:List α}(b:∀x,(ec x).length=d)(h:w.ownsRow base e d v l.length (l.flatMap ec))(j:G9 l.length v):∃g c,v= .slice (some ⟨g,0,none⟩) l.length c/\l.length<=c/\c<=maxLen/\SL w d ec (some ⟨g,0,none⟩) l:=by
 by_cases f:l= []
 ·obtain⟨g,c,rfl,k,m⟩:=j;exact⟨g,c,rfl,k,m,by rw[f];exact SL.nil⟩
 ·obtain⟨g,a,i,rfl,_,_,n,hm,_,o⟩:=tm b h f;exact⟨_,a,rfl,n,hm,o⟩
theorem S1.start{W c:World}{g e:Nat}{aw:dv}{house:Int}{bx:World}(d:bx=W.alloc (.cells #[.pointer (some ⟨e,0,none⟩)] 50))(h:Mk.db c Value.string qw fv g (W.heap.size+1) aw aw)(b:bx.grownBy c none)(hz:c.heap.size=bx.heap.size+1):
  S1 W g e aw house [] aw (.slice none 0 0) c:=by
 have z:bx.heap.size=W.heap.size+1:=by rw[d];simp
 have f:Below W.heap.size W bx:=by rw[d];exact(Below.refl _ _).alloc (aL _) _
 refine⟨h,by simp,World.ownsRow_nil _ _ _ _, ?_,f.trans ⟨b.os,b.tape,b.output,by omega,λk i=>b.block k (by omega) (by simp)⟩,by omega⟩;rw[World.cell?_of_block (a:=⟨W.heap.size,0,none⟩) (b.block W.heap.size (by omega) (by simp)),d];exact(ay.new W [.pointer (some ⟨e,0,none⟩)] 50).ag 0 _ rfl
theorem qn{w:World}{d a:Nat}{T:TypeId}{f n:Nat}{v:Value}{i:List Value}(h:w.ownsRow d T f v n i)(m:a<=d):w.ownsRow a T f v n i:=by obtain⟨j,k⟩:=h;refine⟨j,k.imp id ?_⟩;rintro⟨g,b,c,e,l,r⟩;exact⟨g,b,c,e,fO m l,r⟩
theorem Qp(y:Operand){P:Program}{ops:Array Oper}{rest:List Oper}{a:Act}{Q:Exit->Act->World->Prop}{t:TypeId}{x:Operand}{d:Option Tmp}{ty:TypeId}{c:String}{b:Array Edge}{g:Option (Nat×Bool)}{w:World}
  (h:wpList P ops Q (⟨d, .makeSlice t x y,ty,c,b,g⟩::rest) a w):wpList P ops Q (⟨d, .makeSlice t x y,ty,c,b,g⟩::rest) a w:=h
theorem Ev{P:Program}{ρ:Operand->Value}{a:Oper}{w w':World}{t:TypeId}{x y:Operand}{v:Value}(b:a.op= .makeSlice t x y)(h:(Instr.makeSlice t (ρ x) (ρ y)).run P w= .ok v w'):(execOp ρ a).run P w= .ok (.value v) w':=by unfold execOp;simp[b,h]
theorem pI.grown{bx c f base n:Nat}{aw:dv}{w w':World}{T:TypeId}{v:Value}{r:List Value}(h:pI bx c f aw w)(k:w.ownsRow base T 1 v n r)(d:w.grownBy w' v.ownBlock)(p:bx<base)(b:c<base):pI bx c f aw w':=by
 have hv:∀j,j<base->some j≠v.ownBlock:=λj u e=>by have:=(World.ownsRow.lt k j e.symm).1;omega
 refine⟨by rw[World.cell?_of_block (a:=⟨bx,0,none⟩) (d.block bx (World.block_lt_of_cell? w _ h.box) (hv _ p))];exact h.box,
  by rw[World.cell?_of_block (a:=⟨c,8,none⟩) (d.block c (World.block_lt_of_cell? w _ h.mp) (hv _ b))];exact h.mp,h.is.bD (d.block _ h.is.lt (λe=> ?_))⟩
 obtain⟨t,s,q,_⟩:=h.is;rcases k.2 with⟨b,_⟩|⟨g,l,m,b,_,i,_⟩
 ·rw[b]at e;cases e
 ·rw[b]at e;have o:f=g:=by injection e
  rw[<-o,q]at i;cases i
theorem qu{aw done:dv}{house:Int}(h:done.Perm aw):BF (nL aw) (j6 done house)=nO aw house:=by unfold nO;refine tL (f:=nL aw) ?_ (mq _ _) (mq _ _);refine(dY _ _).trans (List.Perm.trans ?_ (dY _ _).symm);unfold j6;exact(h.filter _).map _
theorem gE(done:dv)(house:Int):(j6 done house).length<=done.length:=by unfold j6;rw[rm];exact List.length_filter_le _ _
theorem fe(aw:dv)(house:Int):(nO aw house).length=(j6 aw house).length:=(dY _ _).length_eq
theorem uC{α β:Type}{l:List α}{k:Nat}{x:α}(f:α->β)(h:l[k]? =some x):(l.take (k+1)).map f=(l.take k).map f++ [f x]:=by rw[zX,h,uE];rfl
theorem QT:∃i,Tryz.prog.info? 9=some i/\i.zero=some (.string ⟨#[]⟩)/\i.size=1/\i.bytes=16:=by
 have h:=QS;cases hi:Tryz.prog.info? 9 with
 |none=>rw[hi]at h;cases h
 |some i=>rw[hi]at h;simp only[GK,NS,NO]at h;exact⟨i,rfl,h.1,h.2.1,h.2.2⟩
theorem wF:∃i,Tryz.prog.info? 42=some i/\i.zero=some (fv aM)/\i.size=7/\i.bytes=72:=by
 have h:=IQ;cases hi:Tryz.prog.info? 42 with
 |none=>rw[hi]at h;cases h
 |some i=>rw[hi]at h;simp only[GK,NS,NO]at h;exact⟨i,rfl,h.1,h.2.1,h.2.2⟩
set_option maxHeartbeats 2000000 in
theorem kZ(o:Lo)(s:HS)(house:Int)(W:World)(h:HR W o s)(hE:Nc s.aw):Calls Tryz.prog 53 #[.pointer (some ⟨o.hb,0,none⟩), .int .i64 house] W (G8 W (bJ s.aw house)):=by
 obtain⟨H,jb,mb,A,c⟩:=o;obtain⟨aw,ee⟩:=x_ s.aw
 have X:=h.mp;have co:=h.bg.lt;have c8:=h.bg.ag 8 _ rfl;dsimp only at X co c8⊢;rw[<-ee]at X hE⊢;obtain⟨R,eR⟩:=x_ (G8 W (bJ aw house))
 rw[<-eR];have ER:=h_ eR;clear ee h eR;obtain⟨V,eV⟩:=x_ (W.alloc (.cells #[.pointer (some ⟨H,0,none⟩)] 50))
 have zV:V.heap.size=W.heap.size+1:=by rw[eV];simp
 have io:Below W.heap.size W V:=by rw[eV];exact(Below.refl _ _).alloc (aL _) _
 have HM:=h_ (X.bD (io.block _ X.lt));have cb:V.cell? ⟨W.heap.size,0,none⟩=some (.pointer (some ⟨H,0,none⟩)):=by rw[eV];exact(ay.new W [.pointer (some ⟨H,0,none⟩)] 50).ag 0 _ rfl
 have At:V.cell? ⟨H,8,none⟩=some (.map (some mb)):=by rw[io.cell (by exact co)];exact c8
 have EV:Hid (W.alloc (.cells #[.pointer (some ⟨H,0,none⟩)] 50)=V):=h_ eV.symm;have kw:=h_ eV;have ZV:=h_ zV;have HE:=h_ hE;have bi:Hid (H<W.heap.size/\W.cell? ⟨H,8,none⟩=some (.map (some mb))):=⟨co,c8⟩
 clear eV zV io X co c8 hE;go_enter Tryz.func53,Tryz.ntmps53;go_wp2_with (first
  |simp only[EV.out]
  |(refine Hj (.tmp 14) ?_;refine Mk.xw rfl (.tmp 14) rfl HM.out Tryz.underlying102 rfl ?_;intro w4 py pi sm;have m5:=h_ py;have li:=h_ pi;have m9:=h_ sm;clear py pi sm;simp only[Pt]))
 have zz:=ZV.out;have m7:Hid (S1 W mb H aw house [] aw (.slice none 0 0) w4):=h_ (S1.start kw.out (by have:=m5.out;rwa[zz]at this) li.out m9.out);rw[zz];clear m5 li m9 HM EV kw ZV zz cb At
 go_loopw [5] (λv wr=> ∃done left,S1 W mb H aw house done left v wr) (λ_ wr=>wr.rangeLeft mb (W.heap.size+1))
 case atStart=>exact⟨_,_,m7.out⟩
 case round=>
  clear m7;obtain⟨done,left,q⟩:=hrel;have m6:=h_ q.rg.left_eq;have gt:=h_ q.rg;have d:=h_ q;clear q;cases left with
  |nil=>
   have rt:=d.out.size;have dl:done.Perm aw:=by have:=d.out.perm;rwa[DS]at this
   have d8:(j6 done house).length<=1000000:=fO (gE _ _) (by rw[dl.length_eq];exact HE.out.jX);have Z:∀t∈j6 done house,qw t:=λt ht=>by
    unfold j6 at ht;obtain⟨p,hp,rfl⟩:=nS.1 ht;exact d.out.rg.map.S9 p (dl.mem_iff.1 (PY.1 hp).1)
   have n:pI W.heap.size H mb aw wr:=⟨d.out.box,by rw[d.out.below.cell (by exact bi.out.1)];exact bi.out.2,d.out.rg.map⟩
   have SR:=h_ (MP W.heap.size H mb (W.heap.size+2) aw (j6 done house) Z u5 wr d.out.row d8 n (by omega) (by have:=bi.out.1;omega));have lw:=h_ n;have K:=h_ dl;have m8:=h_ rt;have d6:=h_ Z;clear dl d8 Z n rt;go_wp2_with (refine Cl (.tmp 15) ?_;refine Mk.rl rfl (.tmp 15) rfl rfl gt.out (λ_=> ?_) (λjp p an w' h=>absurd h (by simp));simp only[Pt])
   refine SR.out.mono ?_;rintro e C ⟨rfl,w,A2,c2,rx,D⟩;rw[qu K.out]at D;obtain⟨T,eT⟩:=x_ (nO aw house)
   have ii:T.length=(j6 done house).length:=by rw[eT, <-qu K.out];exact(dY _ _).length_eq
   have d7:∀t∈T,qw t:=λt ht=>d6.out t (by rw[eT, <-qu K.out]at ht;exact(dY _ _).mem_iff.1 ht)
   have d9:=lw.out.grown d.out.row w (by omega) (by have:=bi.out.1;omega);have no:Below W.heap.size W C:=d.out.below.trans ⟨w.os,w.tape,w.output,w.size,λk S=>w.block k (by have:=m8.out;omega) (λe=>by have:=(World.ownsRow.lt d.out.row k e.symm).1;omega)⟩;have nl:T.length<=1000000:=by rw[ii];exact fO (gE _ _) (by rw[K.out.length_eq];exact HE.out.jX)
   obtain⟨iE,hi,r,l,B⟩:=wF;obtain⟨w3,pm,Y,F⟩:=run_make_own (P:=Tryz.prog) C C.heap.size 56 42 iE _ 7 Tryz.underlying56 hi r l .i64 .i64 T.length (by rw[B];omega) (by unfold maxLen;omega) (aL _);rw[<-eT]at D;rw[<-ii]at rx;subst rx;have n8:Below C.heap.size C w3:=⟨F.os,F.tape,F.output,F.size,λk S=>F.block k S (by simp)⟩
   have wn:=h_ pm;have mt:=h_ d9;have ld:=h_ no;have ul:=h_ n8;have z':=h_ D;have g8:=h_ d7;have g7:=h_ nl;have ET:=h_ eT;have m4:Hid (w3.ownsRow C.heap.size 42 7 (.slice (some ⟨C.heap.size,0,none⟩) 0 T.length) 0 (((T.take 0).map (fP aw)).flatMap aK)):=Y;clear eT ii d7 d9 no n8 nl hi r l B pm Y F w D SR d gt m6 lw K m8 d6;go_wp2_with (refine Qp (.tmp 33) ?_;refine Row.yP rfl (Ev rfl wn.out) ?_;simp only[Pt])
   go_loopw [37,8] (λi v wr=> ∃k:Nat,i= .int .i64 (k:Int)/\k<=T.length/\G9 k v/\wr.ownsRow C.heap.size 42 7 v k (((T.take k).map (fP aw)).flatMap aK)/\Below C.heap.size C wr) (λi _ _=>T.length- (RowKit.intOf i).toNat)
   case atStart=>exact⟨0,rfl,gu _,⟨_,_,rfl,gu _,by have:=g7.out;unfold maxLen;omega⟩,m4.out,ul.out⟩
   case round=>
    clear m4;obtain⟨k,rfl,S,ro,f8,ol⟩:=hrel;have ww:=h_ ro;clear ro;have L:=h_ f8;have J:=h_ ol;clear f8 ol;rcases pC S with z|z
    ·have E8:(k:Int)<(T.length:Int):=by omega
     have Fr:(k:Int)+1<=9223372036854775807:=by have:=g7.out;omega
     obtain⟨t,et⟩:∃t,T[k]? =some t:=⟨_,eH z⟩
     have i':=z'.out.below J.out (aL _);obtain⟨bt,ot,rfl⟩:=cG i' (by intro e;rw[e]at z;simp at z);obtain⟨_,_,e1,M⟩:=i'.at_ et;cases e1
     have c1:wr.cell? ⟨bt,ot+k,none⟩=some (.string t):=by have:=M 0 _ rfl;simpa using this
     have n:=mt.out.below J.out;have cb:=n.box;have c8:=n.mp;have v6:=h_ n.is;have Fk:=g8.out t (ue et);obtain⟨m,g⟩:=x_ (aK (fP aw t))
     have N:fv (fP aw t)= .agg m.toArray:=by rw[g];rfl
     have E:m.length=7:=by rw[g];rfl
     obtain⟨iE,hi,r,l,B⟩:=wF;have up:Hid ((Instr.buildSlice 56 1 #[(0, .agg m.toArray)]).run Tryz.prog wr= .ok (.slice (some ⟨wr.heap.size,0,none⟩) 1 1) (wr.alloc (.cells m.toArray 42))):=h_ (Apk.fj (P:=Tryz.prog) wr 56 42 iE _ Tryz.underlying56 hi r m.toArray (by rw[tY,E,l]) (by rw[l];decide) (by rw[l];decide));have ip:Below wr.heap.size wr (wr.alloc (.cells m.toArray 42)):=(Below.refl _ _).alloc (aL _) _;have q:(wr.alloc (.cells m.toArray 42)).ownsRow C.heap.size 42 7 u8 k (((T.take k).map (fP aw)).flatMap aK):=bC L.out (λj e=>ip.block j (World.ownsRow.lt L.out j e).2);have gc:=J.out.size;have ge:Hid (∀(Q:Exit->Act->World->Prop) (f:Array Oper) (b:List Oper) (o:Oper) (a:Act),o.guard=none->o.op= .call {callee:= .builtin .append,args:= #[.tmp 41, .tmp 48],argTypes:= #[56,56]}->a.eval (.tmp 41)=u8->a.eval (.tmp 48)= .slice (some ⟨wr.heap.size,0,none⟩) 1 1->(∀u I,Hid (I.ownsRow C.heap.size 42 7 u (k+1) (((T.take (k+1)).map (fP aw)).flatMap aK)/\Below C.heap.size C I)->wpList Tryz.prog f Q b (a.put o.dst u) I)->wpList Tryz.prog f Q (o::b) a (wr.alloc (.cells m.toArray 42))):=h_ (by
      intro Q f b o a O ho hx hy D';refine dF O (.tmp 41) (.tmp 48) 56 ho C.heap.size 42 iE _ 72 Tryz.underlying56 hi r l B rfl (by decide) bT cm u8 k _ hx q (some ⟨wr.heap.size,0,none⟩) 1 [fP aw t] hy (cO bT (ay.new wr m 42) (λj u hu=>by simpa[<-g]using hu)) (by simp only[DT];unfold maxLen;omega) (by simp only[DT];have:=g7.out;omega) (by rw[World.size_alloc];omega) ?_;intro u I h9 y _;refine D' u I (h_ ⟨by rw[uC _ et,DU];exact h9,(J.out.trans (ip.mono gc)).trans ⟨y.os,y.tape,y.output,y.size,λj hj=>y.block j (by rw[World.size_alloc];omega) (λe=>by have:=(World.ownsRow.lt q j e.symm).1;omega)⟩⟩))
     have ut:=h_ N;clear i' M n g N E hi r l B ip q gc et S;go_wp2_with (first
      |(refine K9 (.tmp 46) ?_;refine Row.still rfl (nB rfl v6.out Fk rfl rfl) ?_;rw[ut.out];simp only[Pt])
      |(refine Qn (.tmp 47) ?_;refine Row.yP rfl (Apl.fB rfl up.out) ?_;simp only[Pt])
      |(refine v8 (.tmp 41) (.tmp 48) ?_;refine ge.out _ _ _ _ _ rfl rfl rfl rfl ?_;intro u I H9;simp only[Pt]))
     go_roundw
     case rel=>exact⟨k+1,rfl,z,J6 H9.out.1 (by omega),H9.out.1,H9.out.2⟩
     case measure=>simp[RowKit.intOf];omega
    ·have E8: ¬(k:Int)<(T.length:Int):=by omega
     have G:Hid (R (.returned u8) wr):=h_ (by
      have h1:=L.out;have e2:(T.take k).map (fP aw)=bJ aw house:=by rw[z,KK,ET.out];rfl
      have e3:(bJ aw house).length=k:=by rw[<-e2];simp;omega
      rw[e2]at h1;rw[<-e3]at h1;obtain⟨g9,c9,rfl,By,E',Fd⟩:=Mr bT h1 (by rw[e3];exact ww.out);have f9:=ld.out.size;rw[ER.out];exact⟨g9,c9,rfl,By,E',qn h1 f9,Fd,ld.out.trans (J.out.mono f9)⟩)
     clear S z;go_wp2_with fail;exact G.out
  |cons p0 left0=>
   go_wp2_with (first
    |(
      refine Cl (.tmp 15) ?_;refine Mk.rl rfl (.tmp 15) rfl rfl gt.out (λh=>absurd h (by simp)) ?_;intro jp p an w5 i9 qr pl Fl C';have i8:=d.out.next i9 qr pl;have lm:Hid (wr.rangeLeft mb (W.heap.size+1)=(jp++an).length+1):=h_ (by rw[m6.out,i9];simp;omega);obtain⟨t,x⟩:=p;obtain⟨m,g⟩:=x_ (aK x)
      have N:fv x= .agg m.toArray:=by rw[g];rfl
      rw[N]at C'⊢;have E:m.length=7:=by rw[g];rfl
      have M:∀u∈m,u.oneCell'=true:=by rw[g];exact cm x
      obtain⟨W6,e6⟩:=x_ (w5.alloc (.cells m.toArray 42))
      have ci:Below w5.heap.size w5 W6:=by rw[e6];exact(Below.refl _ _).alloc (aL _) _
      have d0:W6.cell? ⟨w5.heap.size,0,none⟩=some (.int .i64 x.house):=by rw[e6];exact(ay.new w5 m 42).ag 0 _ (by rw[g];rfl)
      have U:=i8.grow (ci.trans ((Below.refl _ W6).alloc (o:= .cells #[.string t] 9) ci.size));have E9:=U.len;have Do:=HE.out.jX;have HK:=h_ (i8.grow ci);have ge:Hid (∀(Q:Exit->Act->World->Prop) (f:Array Oper) (b:List Oper) (o:Oper) (a:Act),o.guard=none->o.op= .call {callee:= .builtin .append,args:= #[.tmp 25, .tmp 27],argTypes:= #[137,137]}->a.eval (.tmp 25)=u5->a.eval (.tmp 27)= .slice (some ⟨W6.heap.size,0,none⟩) 1 1->(∀u I,Hid ((x.house==house)=true->S1 W mb H aw house (done++ [(t,x)]) (jp++an) u I)->wpList Tryz.prog f Q b (a.put o.dst u) I)->wpList Tryz.prog f Q (o::b) a (W6.alloc (.cells #[.string t] 9))):=h_ (by
       intro Q f b o a O ho hx hy S;obtain⟨i0,hi,r,l,B⟩:=QT;refine dF O (.tmp 25) (.tmp 27) 137 ho (W.heap.size+2) 9 i0 _ 16 Tryz.underlying137 hi r l B rfl (by decide) sC Il u5 (j6 done house).length _ hx U.row (some ⟨W6.heap.size,0,none⟩) 1 [t] hy (cO sC (ay.new W6 [.string t] 9) (λj u hu=>by simpa[mW]using hu)) (by simp only[DT];unfold maxLen;omega) (by simp only[DT];omega) U.size ?_;intro u I h9 y _;exact S u I (h_ λhp=>U.add hp h9 (by simp) y))
      have An:Hid (∀(Q:Exit->Act->World->Prop) (f:Array Oper) (b:List Oper) (o:Oper) (a:Act),o.guard=none->o.op= .store 42 (.tmp 7) (.tmp 20)->a.eval (.tmp 7)= .pointer (some ⟨w5.heap.size,0,none⟩)->a.eval (.tmp 20)= .agg m.toArray->∀ju:Array Value,ju.size=7->wpList Tryz.prog f Q b (a.put o.dst undef) W6->wpList Tryz.prog f Q (o::b) a (w5.alloc (.cells ju 42))):=h_ (by
       intro Q f b o a O ho hx hy ju pu S;rw[e6]at S;exact Hk.aD O 42 (.tmp 7) (.tmp 20) ho w5.heap.size _ hx hy ju 42 rfl (by rw[show m.toArray.size=7 by simpa using E];kernel_rfl) (by rw[pu];simp[E]) (all_oneCell_toArray M) S)
      clear i9 qr pl Fl i8 U E9 Do g N E M e6 ci;have hh:(x.house==house)=true\/(x.house==house)=false:=by cases (x.house==house)<;>simp
      simp only[Pt];rcases hh with hh|hh)
    |(refine aN (.tmp 7) ?_;refine An.out _ _ _ _ _ rfl rfl rfl rfl _ (by simp) ?_;simp only[Pt])
    |(refine v8 (.tmp 25) (.tmp 27) ?_;refine ge.out _ _ _ _ _ rfl rfl rfl rfl ?_;intro u I H9;simp only[Pt]))
   ·go_roundw
    case rel=>exact⟨_,_,H9.out hh⟩
    case measure=>have h1:=lm.out;have h2:=(H9.out hh).rg.left_eq;omega
   ·go_roundw
    case rel=>exact⟨_,_,HK.out.skip hh⟩
    case measure=>have h1:=lm.out;have h2:=HK.out.rg.left_eq;omega
structure NW (w:World) (b:Nat) (e:aV):Prop where
 c0:w.cell? ⟨b,0,none⟩=some (.int .i64 e.house)
 c1:w.cell? ⟨b,1,none⟩=some (.int .i64 e.seq)
 c2:w.cell? ⟨b,2,none⟩=some (.int .i64 e.day)
 c5:w.cell? ⟨b,5,none⟩=some (.int .i64 e.r)
 c6:w.cell? ⟨b,6,none⟩=some (.int .i64 e.s)
theorem NW.of{w:World}{b:Nat}{e:aV}{T:TypeId}(h:ay w b (aK e) T):NW w b e:=⟨h.ag 0 _ rfl,h.ag 1 _ rfl,h.ag 2 _ rfl,h.ag 5 _ rfl,h.ag 6 _ rfl⟩
theorem rg_of{w:World}{b:Nat}{cs:List Value}{T:TypeId}(h:ay w b cs T):w.rangeAt b 0 cs:=(show Row w b T cs from h).range (λj v hv=>by rw[nW];exact hv)
theorem cE(cs:List Value)(h:cs.length=7):(Tryz.prog.info? 42).map (·.size)=some cs.length:=by rw[h];kernel_rfl
set_option maxHeartbeats 1000000 in
theorem nI(a:aV)(W:World)(i:a.Ok)(M:a.prev.size<=1000000000)(L:a.body.size<=1000000000)(o:cB W):
  Calls Tryz.prog 50 #[.agg (aK a).toArray] W λe w'=>e= .returned (.string (aP a))/\Below W.heap.size W w':=by
 obtain⟨R,H⟩:=x_ (λe w'=>e= .returned (.string (aP a))/\Below W.heap.size W w':Ending->World->Prop)
 rw[<-H];have y:=cR a.r i.r0 i.r1;have z:=cR a.s i.s0 i.s1;have A:(gb a).size<=3000000000:=by have:=iz i;omega
 have B:=λw o=>ic a w i M L o
 have C:=λw o=>fg a.r w i.r0 i.r1 o
 have D:=λw o=>fg a.s w i.s0 i.s1 o
 obtain⟨v,p⟩:=x_ (dec a.r)
 obtain⟨x,q⟩:=x_ (dec a.s)
 obtain⟨K,t⟩:=x_ (gb a)
 rw[<-p]at y C;rw[<-q]at z D;rw[<-t]at A B;obtain⟨k,l⟩:=x_ (aK a)
 have c:=ay.new W k 42;have m:Below W.heap.size W (W.alloc (.cells k.toArray 42)):=(Below.refl _ _).alloc (aL _) _;have u:=o.alloc (.cells k.toArray 42);obtain⟨V,I⟩:=x_ (W.alloc (.cells k.toArray 42))
 rw[<-I]at c m u;have Y:Hid (∀w',Below V.heap.size V w'->NW w' W.heap.size a):=h_ λw' h=>NW.of (T:=42) (by rw[<-l];exact c.below h c.lt)
 have X:Hid (∀w',Below V.heap.size V w'->w'.rangeAt W.heap.size 0 k):=h_ λw' h=>rg_of (c.below h c.lt)
 have F:Hid (∀w',Below V.heap.size V w'->cB w'):=h_ λw' h=>u.below h (aL _)
 have U:=h_ (cE k (by rw[l];rfl));have E:Hid (∀w',Below V.heap.size V w'->R (.returned (.string (v++⟨#[32]⟩++x++⟨#[32]⟩++K))) w'):=h_ λw' h=>by
  rw[H,p,q,t];exact⟨rfl,m.trans (h.mono m.size)⟩
 have O:Hid (W.alloc (.cells k.toArray 42)=V):=h_ I.symm;rw[<-l]at B⊢;have P:=h_ B;have Q:=h_ C;have S:=h_ D;have z1: ¬9223372036854775807<v.size+1:=by omega
 have z2: ¬9223372036854775807<v.size+1+x.size:=by omega
 have z3: ¬9223372036854775807<v.size+1+x.size+1:=by omega
 have z4: ¬9223372036854775807<v.size+1+x.size+1+K.size:=by omega
 clear H i M L o y z A B C D p q t l c m u I;go_enter Tryz.func50,Tryz.ntmps50;go_wp2_with (simp only[O.out])
 refine Free.ai 14 [(3, .det (.string v)),(8, .det (.string x)),(12, .det (.string K))] (λw'=>Below V.heap.size V w') (by kernel_rfl) (by kernel_rfl) (Free.aW (λj mk r J=>by simp only[Free.find]at J;repeat' (first|cases J|split at J))) (Below.refl _ _).drew (λ_ _ h g=>h.trans (Below.mono g h.size)) ?_;simp only[eJ,dT];iterate 14 (first|(apply Free.aC (Free.wq rfl) rfl;(intro w' b n;refine Free.au (f:=59) (args:= #[.int .i64 a.r]) (by clear b n;go_simp<;>rfl) ?_;refine(Q.out w' (F.out w' b)).mono ?_;rintro e N ⟨rfl,d⟩;exact⟨_,rfl,d,rfl⟩);simp only[Pt])|(apply Free.aC (Free.wq rfl) rfl;(intro w' b n;refine Free.au (f:=59) (args:= #[.int .i64 a.s]) (by clear b n;go_simp<;>rfl) ?_;refine(S.out w' (F.out w' b)).mono ?_;rintro e N ⟨rfl,d⟩;exact⟨_,rfl,d,rfl⟩);simp only[Pt])|(apply Free.ae (Free.wq rfl) rfl;(intro w' b n;exact Hk.aU 42 (.tmp 1) rfl W.heap.size 0 rfl k _ (X.out w' b) Tryz.underlying42 rfl U.out);simp only[Pt])|(apply Free.aC (Free.wq rfl) rfl;(intro w' b n;refine Free.au (f:=16) (args:= #[.agg k.toArray]) (by clear b n;go_simp<;>rfl) ?_;refine(P.out w' (F.out w' b)).mono ?_;rintro e N ⟨rfl,d⟩;exact⟨_,rfl,d,rfl⟩);simp only[Pt])|(apply Free.ae (Free.wq rfl) rfl;(intro w' b n;cases Y.out w' b;clear n b;go_light;go_simp<;>rfl);(try simp only[Pt])))
 apply Free.ax;intro Z hz _ _;simp only[fm,fo];have G:=h_ (E.out Z hz);clear hz;go_wp2_with fail;exact G.out
theorem ry(x y:Int):decide (x<=y)=false\/decide (x<=y)=true:=by cases decide (x<=y)<;>simp
theorem LW(x y:Int):decide (x<y)=false\/decide (x<y)=true:=by cases decide (x<y)<;>simp
set_option maxHeartbeats 1000000 in
theorem tu(o:Lo)(s:HS)(a:aV)(W:World)(h:HR W o s):
  Calls Tryz.prog 49 #[.pointer (some ⟨o.hb,0,none⟩), .agg (aK a).toArray] W λe w'=>e= .returned (.bool (dj s.aj a))/\Below W.heap.size W w':=by
 obtain⟨R,j⟩:=x_ (λe w'=>e= .returned (.bool (dj s.aj a))/\Below W.heap.size W w':Ending->World->Prop)
 rw[<-j];obtain⟨x,y,z,A,c⟩:=o;obtain⟨g,d⟩:=x_ (aK a)
 have f:=ay.new W g 42;have b:Below W.heap.size W (W.alloc (.cells g.toArray 42)):=(Below.refl _ _).alloc (aL _) _;have m:=(h.bg.below b h.bg.lt).ag 0 _ rfl;obtain⟨V,k⟩:=x_ (W.alloc (.cells g.toArray 42))
 rw[<-k]at f b m;have q:=NW.of (e:=a) (T:=42) (by rw[<-d];exact f);obtain⟨B,C,D,E,F⟩:=q;have i:Hid (∀w' v,v=dj s.aj a->Below V.heap.size V w'->R (.returned (.bool v)) w'):=h_ λw' v hv h=>by rw[j,hv];exact⟨rfl,b.trans (h.mono b.size)⟩
 have l:Hid (W.alloc (.cells g.toArray 42)=V):=h_ k.symm;rw[<-d];clear j h d f b k;go_enter Tryz.func49,Tryz.ntmps49;go_wp2_with (simp only[l.out])
 clear l;rcases ry 0 a.house with n|n;rotate_left;rcases LW a.house s.aj with p|p;rotate_left;rcases ry 0 a.seq with r|r;rotate_left;rcases LW a.seq 4000 with t|t;rotate_left;rcases ry 0 a.day with u|u;rotate_left;rcases ry a.day 2000 with w|w;all_goals
  go_quiet (fail)
  go_wp2
  exact i.out _ _ (by unfold dj;simp[*]) (Go.Rf.gj _ _)
def dE(s:HS)(x:ei):Bool:=decide (1<=x.ref)&&(decide (x.ref<=1000000)&&(decide (0<=x.act)&&(decide (x.act<s.bQ)&&(decide (0<=x.low)&&(decide (x.low<=x.high)&&(decide (x.high<s.days)&&(decide (0<=x.cJ)&&decide (x.cJ<=s.days))))))))
set_option maxHeartbeats 2000000 in
theorem vM(o:Lo)(s:HS)(x:ei)(W:World)(h:HR W o s):
  Calls Tryz.prog 45 #[.pointer (some ⟨o.hb,0,none⟩), .agg (bU x).toArray] W λe w'=>e= .returned (.bool (dE s x))/\Below W.heap.size W w':=by
 obtain⟨R,i⟩:=x_ (λe w'=>e= .returned (.bool (dE s x))/\Below W.heap.size W w':Ending->World->Prop)
 rw[<-i];obtain⟨B,C,D,A,c⟩:=o;obtain⟨f,a⟩:=x_ (bU x)
 have b:=ay.new W f 29;have d:Below W.heap.size W (W.alloc (.cells f.toArray 29)):=(Below.refl _ _).alloc (aL _) _;have l:=(h.bg.below d h.bg.lt).ag 1 _ rfl;have m:=(h.bg.below d h.bg.lt).ag 2 _ rfl;obtain⟨V,j⟩:=x_ (W.alloc (.cells f.toArray 29))
 rw[<-j]at b d l m;have E:=b.ag 0 _ (by rw[a];rfl);have F:=b.ag 1 _ (by rw[a];rfl);have G:=b.ag 2 _ (by rw[a];rfl);have H:=b.ag 3 _ (by rw[a];rfl);have I:=b.ag 4 _ (by rw[a];rfl);have g:Hid (∀w' v,v=dE s x->Below V.heap.size V w'->R (.returned (.bool v)) w'):=h_ λw' v hv h=>by rw[i,hv];exact⟨rfl,d.trans (h.mono d.size)⟩
 have k:Hid (W.alloc (.cells f.toArray 29)=V):=h_ j.symm;rw[<-a];clear i h a b d j;go_enter Tryz.func45,Tryz.ntmps45;go_wp2_with (simp only[k.out])
 clear k;rcases ry 1 x.ref with n|n;rotate_left;rcases ry x.ref 1000000 with p|p;rotate_left;rcases ry 0 x.act with q|q;rotate_left;rcases LW x.act s.bQ with r|r;rotate_left;rcases ry 0 x.low with t|t;rotate_left;rcases ry x.low x.high with u|u;rotate_left;rcases LW x.high s.days with w|w;rotate_left;rcases ry 0 x.cJ with y|y;rotate_left;rcases ry x.cJ s.days with z|z;all_goals
  go_quiet (fail)
  go_wp2
  exact g.out _ _ (by unfold dE;simp[*]) (Go.Rf.gj _ _)
structure TZ (w:World) (b hb:Nat) (A:Option Addr) (n c:Nat) (e:aV):Prop where
 en:NW w b e
 k5:w.cell? ⟨hb,5,none⟩=some (.slice A n c)
set_option maxHeartbeats 2000000 in
theorem qN(o:Lo)(s:HS)(b:aV)(text:ByteArray)(W:World)(h:HR W o s)(hn:(s.bF.length:Int)=s.aj)(ho:b.Ok)(hp:b.prev.size<=1000000000)(N:b.body.size<=1000000000)(F:cB W):
  Calls Tryz.prog 51 #[.pointer (some ⟨o.hb,0,none⟩), .agg (aK b).toArray, .string text] W λe w'=>e= .returned (.bool (gB s.aj s.bF b text))/\Below W.heap.size W w':=by
 obtain⟨R,eR⟩:=x_ (λe w'=>e= .returned (.bool (gB s.aj s.bF b text))/\Below W.heap.size W w':Ending->World->Prop)
 rw[<-eR];have bi:(gb b).size<=3000000000:=by have:=iz ho;omega
 have S:=λw F=>ic b w ho hp N F
 obtain⟨H,t⟩:=x_ (gb b)
 obtain⟨I,C⟩:=x_ (nM b (s.bF.getD b.house.toNat 0))
 have Z:=λw F=>xt (s.bF.getD b.house.toNat 0) H b.r b.s w (by rw[t];omega) F
 have P:mu (s.bF.getD b.house.toNat 0) H b.r b.s=I:=by rw[C,t];rfl
 rw[P]at Z;rw[<-t]at S;have x:=λw (hw:HR w o s)=>tu o s b w hw
 have E:dj s.aj b=true->∃j:Nat,b.house=(j:Int)/\j<s.bF.length:=λq=>by
  unfold dj at q;simp only[ua,uD]at q;exact⟨b.house.toNat,by omega,by omega⟩
 obtain⟨PB,z⟩:=x_ (dj s.aj b)
 have u:gB s.aj s.bF b text=(PB&&(decide ((text.size:Int)<=2000)&&I)):=by rw[z,C];rfl
 rw[<-z]at x E;obtain⟨k,p⟩:=x_ (aK b)
 have l:=ay.new W k 42;have m:Below W.heap.size W (W.alloc (.cells k.toArray 42)):=(Below.refl _ _).alloc (aL _) _;have D:=F.alloc (.cells k.toArray 42);have L:=h.below m;obtain⟨M,jb,mb,A,c⟩:=o;obtain⟨V,eV⟩:=x_ (W.alloc (.cells k.toArray 42))
 rw[<-eV]at l m D L;have K:Hid (∀w',Below V.heap.size V w'->TZ w' W.heap.size M A s.bF.length c b):=h_ λw' h=>⟨NW.of (T:=42) (by rw[<-p];exact l.below h l.lt),(L.below h).bg.ag 5 _ rfl⟩
 have HM:Hid (∀w',Below V.heap.size V w'->w'.rangeAt W.heap.size 0 k):=h_ λw' h=>rg_of (l.below h l.lt)
 have HT:Hid (∀w',Below V.heap.size V w'->cB w'):=h_ λw' h=>D.below h (aL _)
 have HI:=h_ (cE k (by rw[p];rfl));have y:Hid (∀w' v,v=(PB&&(decide ((text.size:Int)<=2000)&&I))->Below V.heap.size V w'->R (.returned (.bool v)) w'):=h_ λw' v hv h=>by
  rw[eR,u,hv];exact⟨rfl,m.trans (h.mono m.size)⟩
 have EV:Hid (W.alloc (.cells k.toArray 42)=V):=h_ eV.symm;have CP:=h_ (λw' (h:Below V.heap.size V w')=>x w' (L.below h));rw[<-p]at S CP⊢;have H1:=h_ S;have H2:=h_ Z;have HP:=h_ (λw' (h:Below V.heap.size V w')=>(L.below h).bF);have J:=h_ E;clear eR ho hp N F bi S Z x t C P z u p l m D L eV h hn E;cases PB with
 |false=>
  have HC:Hid (∀w',Below V.heap.size V w'->True):=h_ λ_ _=>trivial
  go_enter Tryz.func51,Tryz.ntmps51;go_wp2_with (simp only[EV.out])
  refine Free.ai 23 [(2, .det (.bool false)),(18, .det (.string H)),(21, .det (.bool I))] (λw'=>Below V.heap.size V w') (by kernel_rfl) (by kernel_rfl) (Free.aW (λj mk r n=>by simp only[Free.find]at n;repeat' (first|cases n|split at n))) (Below.refl _ _).drew (λ_ _ h g=>h.trans (Below.mono g h.size)) ?_;simp only[eJ,dT];iterate 23 (first|(apply Free.dw (by exact fk rfl rfl rfl rfl);simp only[Pt])|(apply Free.ae (Free.wq rfl) rfl;(intro w' a i;exact Hk.aU 42 (.tmp 4) rfl W.heap.size 0 rfl k _ (HM.out w' a) Tryz.underlying42 rfl HI.out);simp only[Pt])|(apply Free.aC (Free.wq rfl) rfl;(intro w' a i;refine Free.au (f:=49) (args:= #[.pointer (some ⟨M,0,none⟩), .agg k.toArray]) (by clear a i;go_simp<;>rfl) ?_;refine(CP.out w' a).mono ?_;rintro e Y ⟨rfl,d⟩;exact⟨_,rfl,d,rfl⟩);simp only[Pt])|(apply Free.ae (Free.wq rfl) rfl;(intro w' a i;obtain⟨⟨q0,q1,q2,q5,q6⟩,X⟩:=K.out w' a;have ct:=HC.out w' a;clear i a;go_light;go_simp<;>rfl);(try simp only[Pt])))
  apply Free.ax;intro Q hz _ _;simp only[fm,fo];have G:=h_ (y.out Q _ (by rfl) hz);clear hz;go_wp2_with fail;exact G.out
 |true=>
  rcases ry (text.size:Int) 2000 with t1|t1
  ·have HC:Hid (∀w',Below V.heap.size V w'->True):=h_ λ_ _=>trivial
   go_enter Tryz.func51,Tryz.ntmps51;go_wp2_with (simp only[EV.out])
   refine Free.ai 23 [(2, .det (.bool true)),(18, .det (.string H)),(21, .det (.bool I))] (λw'=>Below V.heap.size V w') (by kernel_rfl) (by kernel_rfl) (Free.aW (λj mk r n=>by simp only[Free.find]at n;repeat' (first|cases n|split at n))) (Below.refl _ _).drew (λ_ _ h g=>h.trans (Below.mono g h.size)) ?_;simp only[eJ,dT];iterate 23 (first|(apply Free.dw (by exact fk rfl rfl rfl rfl);simp only[Pt])|(apply Free.ae (Free.wq rfl) rfl;(intro w' a i;exact Hk.aU 42 (.tmp 4) rfl W.heap.size 0 rfl k _ (HM.out w' a) Tryz.underlying42 rfl HI.out);simp only[Pt])|(apply Free.aC (Free.wq rfl) rfl;(intro w' a i;refine Free.au (f:=49) (args:= #[.pointer (some ⟨M,0,none⟩), .agg k.toArray]) (by clear a i;go_simp<;>rfl) ?_;refine(CP.out w' a).mono ?_;rintro e Y ⟨rfl,d⟩;exact⟨_,rfl,d,rfl⟩);simp only[Pt])|(apply Free.ae (Free.wq rfl) rfl;(intro w' a i;obtain⟨⟨q0,q1,q2,q5,q6⟩,X⟩:=K.out w' a;have ct:=HC.out w' a;clear i a;go_light;go_simp<;>rfl);(try simp only[Pt])))
   apply Free.ax;intro Q hz _ _;simp only[fm,fo];have G:=h_ (y.out Q _ (by rw[t1]) hz);clear hz;go_wp2_with fail;exact G.out
  ·obtain⟨j,ej,U⟩:=J.out rfl;have dl:(j:Int)<(s.bF.length:Int):=by omega
   have co:(0:Int)<=(j:Int):=by omega
   obtain⟨pv,B⟩:∃pv,s.bF[j]? =some pv:=⟨_,eH U⟩
   obtain⟨ab,ao,rfl⟩:=cG (HP.out V (Below.refl _ _)) (by intro e;rw[e]at U;simp at U);have HC:Hid (∀w',Below V.heap.size V w'->w'.cell? ⟨ab,ao+j,none⟩=some (.int .i64 pv)):=h_ λw' h=>fi (HP.out w' h) B
   have O:s.bF.getD b.house.toNat 0=pv:=by rw[ej,tZ,BX,B];rfl
   rw[O]at H2;obtain⟨⟨ci,_,_,_,_⟩,_⟩:=K.out V (Below.refl _ _);obtain⟨xh,eh⟩:=x_ b.house
   have an:Hid (∀w',Below V.heap.size V w'->w'.cell? ⟨W.heap.size,0,none⟩=some (.int .i64 (j:Int))/\w'.cell? ⟨W.heap.size,5,none⟩=some (.int .i64 b.r)/\w'.cell? ⟨W.heap.size,6,none⟩=some (.int .i64 b.s)/\w'.cell? ⟨M,5,none⟩=some (.slice (some ⟨ab,ao,none⟩) s.bF.length c)):=h_ λw' h=>by
    obtain⟨⟨a0,a1,a2,a5,a6⟩,X⟩:=K.out w' h;exact⟨by rw[<-ej];exact a0,a5,a6,X⟩
   clear ej U B O ci K HP J eh;go_enter Tryz.func51,Tryz.ntmps51;go_wp2_with (simp only[EV.out])
   refine Free.ai 23 [(2, .det (.bool true)),(18, .det (.string H)),(21, .det (.bool I))] (λw'=>Below V.heap.size V w') (by kernel_rfl) (by kernel_rfl) (Free.aW (λj mk r n=>by simp only[Free.find]at n;repeat' (first|cases n|split at n))) (Below.refl _ _).drew (λ_ _ h g=>h.trans (Below.mono g h.size)) ?_;simp only[eJ,dT];iterate 23 (first|(apply Free.ae (Free.wq rfl) rfl;(intro w' a i;exact Hk.aU 42 (.tmp 4) rfl W.heap.size 0 rfl k _ (HM.out w' a) Tryz.underlying42 rfl HI.out);simp only[Pt])|(apply Free.aC (Free.wq rfl) rfl;(intro w' a i;refine Free.au (f:=49) (args:= #[.pointer (some ⟨M,0,none⟩), .agg k.toArray]) (by clear a i;go_simp<;>rfl) ?_;refine(CP.out w' a).mono ?_;rintro e Y ⟨rfl,d⟩;exact⟨_,rfl,d,rfl⟩);simp only[Pt])|(apply Free.aC (Free.wq rfl) rfl;(intro w' a i;refine Free.au (f:=16) (args:= #[.agg k.toArray]) (by clear a i;go_simp<;>rfl) ?_;refine(H1.out w' (HT.out w' a)).mono ?_;rintro e Y ⟨rfl,d⟩;exact⟨_,rfl,d,rfl⟩);simp only[Pt])|(apply Free.aC (Free.wq rfl) rfl;(intro w' a i;refine Free.au (f:=15) (args:= #[.int .i64 pv, .string H, .agg #[.int .i64 b.r, .int .i64 b.s]]) (by clear a i;go_simp<;>rfl) ?_;refine(H2.out w' (HT.out w' a)).mono ?_;rintro e Y ⟨rfl,d⟩;exact⟨_,rfl,d,rfl⟩);simp only[Pt])|(apply Free.ae (Free.wq rfl) rfl;(intro w' a i;obtain⟨q0,q5,q6,X⟩:=an.out w' a;have ct:=HC.out w' a;clear i a;go_light;go_simp<;>rfl);(try simp only[Pt])))
   apply Free.ax;intro Q hz _ _;simp only[fm,fo];have G:=h_ (y.out Q _ (by rw[t1]) hz);clear hz;go_wp2_with fail;exact G.out
end Go.Proofs.YtkmbmfengcdmoaaGreatDoor

