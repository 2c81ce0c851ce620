/- Package journal: store, walked. No condition. -/
import Derived.Test.YtkmbmfengcdmoaaGreatDoorZAY
set_option maxRecDepth 100000
set_option linter.all false
namespace Go.Proofs.YtkmbmfengcdmoaaGreatDoor
open Go.RowKit Go.ay Go.Jn Go.Dk Go.Mp Go.Rf Go.Shelf
attribute [local go_sem] Oper.semAt_some
theorem Kw{n s:Nat}{d:DD}{t:List UInt8}(a:d.on=true)(f:s<n)(c:t.length=32)(h:(DD.write n d (s:Int) t).2=0):(DD.write n d (s:Int) t).1.on=true/\(DD.write n d (s:Int) t).1.aF.length=d.aF.length+1:=by
 rcases tW (n:=n) (d:=d) (s:=s) a f c with⟨e,_⟩|⟨e,_⟩
 ·rw[e];have c:=Go.Jn.lh (d.push (s:Int) t);refine⟨c.1.trans a, ?_⟩;show(d.push (s:Int) t).tick.aF.length=_;rw[c.2.2.1];show(d.aF++ [_]).length=_;simp
 ·rw[e]at h;exact absurd h (by show ¬((21:Int)=0);decide)
theorem Pp(l:List UInt8)(j:Nat)(h:j<(tx l).size)(a:j<l.length):(tx l)[j]'h=l[j]'a:=rfl
section
variable {W W3 W4:World} {b bs bm n B:Nat} {pv':Value} {dc:DD}
theorem MQ(d:aI W b bs bm pv' dc n)(p:Below W.heap.size W W3)(s:aJ (Fp b bs bm pv') W3 W4)(q:bm<B):
  KeepsFrom B W W4/\aJ (Fp b bs bm pv') W W4:=by
 have c:aJ (Fp b bs bm pv') W W4:=aJ.trans (F:=Fp b bs bm pv') (aJ.aY p) s (λ_ _ f=>f);refine⟨⟨c.size,λk o t a h=> ?_⟩,c⟩;have j:=(iS.1 a).1;refine(c.block k j ?_).trans a;rintro(rfl|rfl|rfl|e)
 ·rw[show W.heap[k]? =_ from d.bg]at a;cases a;cases h
 ·rw[show W.heap[k]? =_ from d.st]at a;cases a;cases h
 ·omega
 ·rcases d.row.2 with⟨rfl,_⟩|⟨g,l,m,rfl,_,r,_⟩
  ·simp[Value.ownBlock]at e
  ·have i:g=k:=by simpa[Value.ownBlock]using e
   subst i;rw[r]at a;cases a;cases h
theorem lM{x:Nat}{cs:List Value}{T:TypeId}(f:aI W b bs bm pv' dc n)(e:aJ (Fp b bs bm pv') W W4)(h:ay W x cs T)(a:T≠135)(c:T≠5)(d:T≠203):ay W4 x cs T:=
 h.bG (e.block x h.lt (jG f h a c d))
end
section
variable {W w:World} {b bs bm n D:Nat} {pv pv':Value} {dc:DD}
theorem l7{x:Option (List Deferred)}(h:aI W b bs bm pv' dc n)(a:W.heap[D]? =some (.deferred x)): ¬Fp b bs bm pv' D:=by
 rintro(rfl|rfl|rfl|e)
 ·rw[show W.heap[D]? =_ from h.bg]at a;cases a
 ·rw[show W.heap[D]? =_ from h.st]at a;cases a
 ·obtain⟨k,c,hm,_⟩:=h.map;rw[hm]at a;cases a
 ·rcases h.row.2 with⟨rfl,_⟩|⟨g,f,i,rfl,_,j,_⟩
  ·simp[Value.ownBlock]at e
  ·have d:g=D:=by simpa[Value.ownBlock]using e
   subst d;rw[j]at a;cases a
theorem dD.put{x:Option (List Deferred)}(h:dD w b bs bm n pv dc W)(j:W.heap[D]? =some (.deferred x))(m:w.heap.size<=D)(o:Obj:= .deferred none):dD w b bs bm n pv dc (W.putObj D o):=by obtain⟨a,pv',c,f,g,i⟩:=h;have d:aJ (λk=>k=D) W (W.putObj D o):=(aJ.refl _ W).grown (grownBy_putObj' W D o) (λk e _=>by cases e;rfl);exact⟨a,pv',c.bD d (λk l e=>l7 c j (e▸l)),f.grown (grownBy_putObj' W D o) (λk e d=>by cases e;omega),g,i⟩
end
theorem Eu{P:Program}{o:Oper}{ρ:Operand->Value}{w:World}{c a e:TypeId}{x:Operand}{g cap:Nat}{l:List UInt8}(k:o.op= .convert c a x)(p:ρ x= .slice (some ⟨g,0,none⟩) l.length cap)(m:P.underlying c=some (.slice e))(i:P.underlying e=some (.int .u8))(h:P.underlying a=some .string)
  (f:∀j (d:j<l.length),w.cell? ⟨g,j,none⟩=some (C8 l[j])):(execOp ρ o).run P w= .ok (.value (.string ⟨l.toArray⟩)) w:=by
 have:=run_convert_bytes_back (P:=P) w c a e ⟨g,0,none⟩ cap l m i h (λj d=>by rw[addr_add,nW];exact f j d);unfold execOp;simp only[k,p,Sem.run_bind,this,Result.andThen_ok,Sem.run_pure]
theorem Fh{w:World}{jb b bs bm n:Nat}{pv:Value}{d:DD}(j:w.cell? ⟨jb,5,none⟩=some (.pointer (some ⟨b,0,none⟩)))(h:aI w b bs bm pv d n)(a:d.on=false)(s:Int):
  Calls Tryz.prog 166 #[.pointer (some ⟨jb,0,none⟩), .int .i64 s] w λe w'=>e= .panicked (bad 21)/\w=w':=by
 have f:=h_ (oW h s);have g:DD.read n d s=([],21):=by unfold DD.read;rw[if_neg (by rw[a];decide)]
 rw[g]at f;have i:=h_ (gP 21 w rfl);obtain⟨R,c⟩:=x_ (λe w'=>e= .panicked (bad 21)/\w=w':Ending->World->Prop)
 rw[<-c];have F:Hid (R (.panicked (bad 21)) w):=by rw[c];exact⟨rfl,rfl⟩
 clear c g h;go_enter Tryz.func166,Tryz.ntmps166;go_wp2_with fail;refine f.out.mono ?_;rintro e w' ⟨rfl,rfl⟩;go_wp2_with fail;refine i.out.mono ?_;rintro e w' ⟨rfl,rfl⟩;exact⟨rfl,F.out⟩
set_option maxHeartbeats 400000 in
theorem Gp{w:World}{jb b bs bm n a half off:Nat}{pv rv:Value}{br:Bool}{v:Nat×Nat×Nat}{d:DD}{text:List UInt8}(hd:aI w b bs bm pv d n)(hn:4<=n)(L:ay w jb (dW v a ((n-2) / 2) b rv br) 189)
  (hh:half<=1) (m5:off+text.length<=32*((n-2) / 2)) (ul:d.aF.length<=900000):
  Calls Tryz.prog 131 #[.pointer (some ⟨jb,0,none⟩), .int .i64 (half:Int), .int .i64 (off:Int), .string (tx text)] w (Ha w b bs bm n pv (b9 n (2+half*((n-2) / 2)) off text d)):=by
 have C':=hd.ok.n2;obtain⟨R,eR⟩:=x_ (Ha w b bs bm n pv (b9 n (2+half*((n-2) / 2)) off text d))
 rw[<-eR];obtain⟨size,es⟩:=x_ ((n-2) / 2)
 rw[<-es]at L m5 eR;have An:half*size<=size:=by
  have:half=0\/half=1:=by omega
  rcases this with rfl|rfl<;>simp
 have HJ:=h_ L;have ii:=h_ (fun(W:World) (pv':Value) (hk:aJ (Fp b bs bm pv) w W)=>L.bG (hk.block jb L.lt (jG hd L (by decide) (by decide) (by decide))));have sm:bm<w.heap.size:=hd.map.lt;have At:jb<w.heap.size:=L.lt;by_cases ht:text= []
 ·have F:Hid (∀I,Below w.heap.size w I->R (.returned (.tuple #[])) I):=λI hb=>by
   rw[eR];unfold b9;rw[if_pos ht];exact⟨⟨bm,pv,hd.below hb,aJ.aY hb, .inl rfl,λ_ h=> .inl h⟩, .inl ⟨rfl,rfl⟩⟩
  have q1:((tx text).toList==([]:List UInt8))=true:=by rw[ht,ByteArray.toList_eq,gH];rfl
  have q2:(tx text).toList.isEmpty=true:=by rw[ht,ByteArray.toList_eq,gH];rfl
  have g8:Hid (Below w.heap.size w (((w.alloc (.cells #[.pointer (some ⟨jb,0,none⟩)] 101)).alloc (.cells #[.int .i64 (off:Int)] 3)).alloc (.cells #[.string (tx text)] 9))):=(((Below.refl _ w).alloc (aL _) _).alloc (by simp) _).alloc (by simp;omega) _;obtain⟨x,ex⟩:=x_ (tx text)
  rw[<-ex]at g8 q1 q2⊢;clear eR ex ht hd L;go_enter Tryz.func131,Tryz.ntmps131;go_wp2_with fail;first
   |exact F.out _ g8.out
   |exact bodyPost_ret (results_none rfl _ _ _) rfl (F.out _ g8.out)
 ·have f8:(tx text).toList≠ []:=by rw[ByteArray.toList_eq,gH];exact ht
  have q1:((tx text).toList==([]:List UInt8))=false:=by
   cases h:(tx text).toList with
   |nil=>exact absurd h f8
   |cons _ _=>rfl
  have q2:(tx text).toList.isEmpty=false:=by
   cases h:(tx text).toList with
   |nil=>exact absurd h f8
   |cons _ _=>rfl
  have q3:((tx text).toList= [])=False:=eq_false f8;have m6:=ft text;obtain⟨x,ex⟩:=x_ (tx text)
  rw[<-ex]at q1 q2 q3 m6⊢;have EX:=h_ ex;have ER:=h_ eR;have HD:=h_ hd;have HT:=h_ ht;clear f8 ex eR hd ht L;have By:∀(fn:Fn) (first cap:Array Value) (w:World),(Instr.makeFunc fn first cap).run Tryz.prog w= .ok (.func fn first cap) w:=λ_ _ _ _=>rfl
  refine xX 4 Tryz.func131 rfl ?_;simp only[Tryz.ntmps131,tY,kq,qA,Nat.reduceAdd,Nat.reduceSub,M0,MZ,M7,M6,xK,xC];refine gI (ff ?_);go_wp2_with fail;refine gI (ff ?_);go_wp2_with fail;refine gI (gI (ff ?_));go_wp2_with fail;first
   |refine(ml jb half off text.length).mono ?_
   |(rw[m6];refine(ml jb half off text.length).mono ?_)
  rintro e I ⟨rfl,gc⟩;have S:Hid (SI w b bs bm n pv (2+half*size) off text half jb (w.heap.size+3) d [] I):=by
   have rt:Below w.heap.size w (((w.alloc (.cells #[.pointer (some ⟨jb,0,none⟩)] 101)).alloc (.cells #[.int .i64 (off:Int)] 3)).alloc (.cells #[.string x] 9)):=(((Below.refl _ w).alloc (aL _) _).alloc (by simp) _).alloc (by simp;omega) _;have hb:Below w.heap.size w I:=by rw[gc];exact(((rt.alloc (by simp;omega) _).alloc (by simp;omega) _).alloc (by simp;omega) _).alloc (by simp;omega) _
   refine⟨d,pv,λ_=>rfl,rfl,by simp,HD.out.below hb,aJ.aY hb,λ_ h=> .inl h, ?_⟩;rw[gc];refine⟨?_, ?_, ?_, ?_, ?_, ?_, ?_⟩
   ·exact bZ (bZ (bZ (bZ (bZ (bZ (eY rfl))))))
   ·exact bZ (bZ (bZ (bZ (bZ (eY (by simp))))))
   ·rw[<-EX.out];exact bZ (bZ (bZ (bZ (eY (by simp)))))
   ·exact eY (by simp)
   ·exact bZ (eY (by simp))
   ·exact bZ (bZ (eY (by simp)))
   ·exact bZ (bZ (bZ (eY (by simp))))
  have D':I.heap.size=w.heap.size+7:=by rw[gc];simp
  clear gc;go_wp2_with fail;have hq:∃q,q=w.heap.size+1+1+1:=⟨_,rfl⟩
  obtain⟨q,eq⟩:=hq;rw[show w.heap.size+3=w.heap.size+1+1+1 from rfl, <-eq]at S;rw[<-eq];have Do:q=w.heap.size+3:=eq;clear eq;have i8:Hid (qF I (q+3) (q+2) (q+1) q jb text.length off half size):=by obtain⟨dc,pv',_,_,_,_,H,_,_,_,_,pm,pu,py,qr⟩:=S.out;exact⟨pm.ag 0 _ rfl,pu.ag 0 _ rfl,py.ag 0 _ rfl,qr.ag 0 _ rfl,(ii.out I pv' H).ag 4 _ rfl⟩
  obtain⟨base,eb⟩:=x_ (2+half*size)
  have EB:=h_ eb;rw[<-eb]at S ER;have rx:base+size<=n:=by omega
  clear eb;refine tT ?_;refine vO (α:=Nat) (n:=4) (encs:=Ij base) (F:=FI q jb) (gf:=224) rfl (enters_of Tryz.func224 (by kernel_rfl) rfl) (λk hk=>⟨by omega,by omega,by omega,by omega,by omega⟩)
   (EB.out▸rh 3 (q+3) (q+2) (q+1) q jb (by decide) (FI q jb) half off text.length size (λh=>h.1 rfl) (λh=>h.2.1 rfl) (λh=>h.2.2.1 rfl) (λh=>h.2.2.2.1 rfl) (λh=>h.2.2.2.2 rfl) hh (by omega) (by omega) (by omega) I i8.out) (λ_=>rfl)
   (SI w b bs bm n pv base off text half jb q d) (λch W=>(cA n base off text (cW off text.length) d).2≠0/\ch=bad (cA n base off text (cW off text.length) d).2/\dD w b bs bm n pv (cA n base off text (cW off text.length) d).1 W) (Ob w b bs bm n pv base off text half jb q d _ (by omega) sm) S.out ?a1 ?assign ?body ?done ?panic
  case assign=>
   intro l x W K hK
   gi_wp2
   exact hK
  case body=>
   clear S i8;go_light;rintro l ge k W ld ro;obtain⟨dc,pv',Q,E,h3,T,H,h6,b0,b1,b2,b3,b4,b5,b6⟩:=ld;obtain⟨A,M⟩:=ro;have hk:k<(off+text.length+31) / 32/\off / 32<=k:=by
    have:k∈cW off text.length:=by rw[<-M];simp
    unfold cW at this;rw[List.mem_range'_1]at this;omega
   have ut:ge.length<=4000:=by have Q:(cW off text.length).length=_:=Qa;have E:=congrArg List.length M;rw[Q]at E;simp at E;omega
   obtain⟨s,N⟩:=x_ (base+k:Nat)
   obtain⟨z,Y⟩:=x_ (32*k:Nat)
   have es:(s:Int)=(base:Int)+(k:Int):=by omega
   have ez:(z:Int)=32*(k:Int):=by omega
   have f9:s<n:=by omega
   have E8:z<=100000:=by omega
   have up:off<=100000:=by omega
   obtain⟨t,et⟩:=x_ (sec (nc dc) s)
   have m:t.length=32:=by rw[et];exact ij (by rw[mD T.ok];omega)
   have X:=ii.out W pv' H;cases hon:d.on with
   |false=>
    have kw:dc.on=false:=E.trans hon;have RD:=h_ (Fh (jb:=jb) (w:=W) (X.ag 5 _ rfl) T kw (s:Int));have EN:cA n base off text (cW off text.length) d=(dc,21):=by
     rw[<-M,List.append_assoc,Q,List.singleton_append];have er:DD.read n dc ((base+k:Nat):Int)=([],21):=by unfold DD.read;rw[if_neg (by rw[kw];decide)]
     show(if _ then _ else _)=_;rw[er];rfl
    have o:Hid (KeepsFrom I.heap.size W W/\(cA n base off text (cW off text.length) d).2≠0/\bad 21=bad (cA n base off text (cW off text.length) d).2/\dD w b bs bm n pv (cA n base off text (cW off text.length) d).1 W):=by rw[EN];exact h_ ⟨KeepsFrom.refl _ _,(show(21:Int)≠0 by decide),rfl,bm,pv',T,H, .inl rfl,h6⟩
    have c0:=b0.ag 0 _ rfl;rw[<-es, <-ez];clear Q E kw h3 T H h6 b0 b1 b2 b3 b4 b5 b6 M hk N Y es ez X et EN hon
    gi_wp2
    refine⟨trivial,Free.dz ?_⟩;refine RD.out.mono ?_;rintro e w2 ⟨rfl,rfl⟩
    gi_wp2
    exact⟨o.out.1,rfl,o.out.2⟩
   |true=>
   replace E:=E.trans hon
   have RD:=h_ (sQ (jb:=jb) (w:=W) (X.ag 5 _ rfl) T E s f9);rw[<-et]at RD;have nl:Hid (cA n base off text (cW off text.length) d=if(DD.write n dc (s:Int) (patch t z off text)).2=0 then cA n base off text A (DD.write n dc (s:Int) (patch t z off text)).1 else DD.write n dc (s:Int) (patch t z off text)):=by show _=_;rw[<-M,List.append_assoc,Q,List.singleton_append];have hr:=tD T.ok E f9;rw[N]at hr et;show(if _ then _ else _)=_;rw[hr,if_pos rfl,N,Y,et]
   have m9:Hid (∀A,cA n base off text ((ge++ [k])++A) d=if(DD.write n dc (s:Int) (patch t z off text)).2=0 then cA n base off text A (DD.write n dc (s:Int) (patch t z off text)).1 else DD.write n dc (s:Int) (patch t z off text)):=λA=>by
    rw[List.append_assoc,Q,List.singleton_append];have hr:=tD T.ok E f9;rw[N]at hr et;show(if _ then _ else _)=_;rw[hr,if_pos rfl,N,Y,et]
   have H2:=h_ E;have H3:Hid (dc.aF.length<=d.aF.length+ge.length/\dc.aF.length<1000000):=⟨h3,by omega⟩
   have H4:=h_ T;have H5:=h_ H;have H6:=h_ h6;have HB:=h_ (And.intro b0 (And.intro b1 (And.intro b2 (And.intro b3 (And.intro b4 (And.intro b5 b6))))));have d7:Hid (w.heap.size+7<=W.heap.size):=by have:=b3.lt;show _<=_;omega
   have io:=h_ X;have c0:=b0.ag 0 _ rfl;have c1:=b1.ag 0 _ rfl;have c2:=b2.ag 0 _ rfl;rw[<-EX.out]at c2;obtain⟨y,ey⟩:=x_ (tx t)
   have pi:y.size=32:=by rw[ey,ft,m]
   obtain⟨cap,gt⟩:=x_ (grownCap W y.size 0 5)
   have ol:=run_bytes_of_string (P:=Tryz.prog) W 9 117 5 y Tryz.underlying9 Tryz.underlying117 Tryz.underlying5;obtain⟨W2,d9⟩:=x_ (W.drew.alloc (.cells (bytesRow y (grownCap W y.size 0 5)) 5 ((bytesRow y (grownCap W y.size 0 5)).size,(bytesRow y (grownCap W y.size 0 5)).size+1)))
   have pl:Hid (ji W2 W.heap.size t):=by rw[d9,ey];exact(Hp W t).choose_spec.1
   have an:Hid (Below W.heap.size W W2):=by rw[d9];exact(gj W 1).alloc (aL _) _
   rw[<-d9, <-gt,pi]at ol;rw[<-ey]at RD;rw[<-es, <-ez];have wn:=h_ N;have ww:=h_ Y;have v6:=h_ M;clear Q E h3 T H h6 b0 b1 b2 b3 b4 b5 b6 M hk N Y es ez X ey d9 gt et pi
   gi_wp2
   refine⟨trivial,Free.dz ?_⟩;refine RD.out.mono ?_;rintro e w2 ⟨rfl,rfl⟩
   gi_wp2
   have e1:W2.cell? ⟨w.heap.size+1,0,none⟩=some (.int .i64 (off:Int)):=aO c1 an.out;have e2:W2.cell? ⟨w.heap.size+1+1,0,none⟩=some (.string x):=aO c2 an.out;have E1:=h_ e1;have E2:=h_ e2;have i9:Hid (ji W2 W.heap.size (ma t z off text 0)/\aJ (λk=>k=W.heap.size) W2 W2):=⟨by rw[FH];exact pl.out,aJ.refl _ _⟩
   clear c0 c1 c2 e1 e2 ol RD
   gi_loopw [29] (λvi wr=> ∃i:Nat,vi= .int .i64 (i:Int)/\i<=32/\ji wr W.heap.size (ma t z off text i)/\aJ (λk=>k=W.heap.size) W2 wr) (λvi _=>32- (intOf vi).toNat)
   case atStart=>exact⟨0,rfl,by decide,i9.out.1,i9.out.2⟩
   case round=>
    clear i9;obtain⟨i,rfl,hi,n8,hk⟩:=hrel;have d1:=fL E1.out hk (by show ¬w.heap.size+1=W.heap.size;have:=d7.out;omega);have d2:=fL E2.out hk (by show ¬w.heap.size+1+1=W.heap.size;have:=d7.out;omega);have BY:=h_ n8;have HK:=h_ hk;clear n8 hk;by_cases U:i<32
    ·have t1:decide ((i:Int)<32)=true:=dt (by omega);by_cases ha:off<=z+i/\z+i<off+text.length
     ·have t2:decide ((0:Int)<=(z:Int)+(i:Int)- (off:Int))=true:=dt (by omega);have t3:decide ((z:Int)+(i:Int)- (off:Int)<(text.length:Int))=true:=dt (by omega);have m7:(z:Int)+(i:Int)- (off:Int)<(x.size:Int):=by rw[m6];omega
      have bd:=BY.out.cell i (by rw[iu,m];exact U);have bf:=BY.out.frozen i (by rw[iu,m];exact U);have FX:Hid (∀v,v=C8 (text[z+i-off]'(by omega))->ji (wr.setCell ⟨W.heap.size,i,none⟩ v) W.heap.size (ma t z off text (i+1))):=λv hv=>by
       rw[hv,Mu (t:=t) (start:=z) (off:=off) (text:=text) (by rw[m];exact U) ha.1 (eH (by omega))];exact BY.out.set i (by rw[iu,m];exact U) _
      have EV:Hid (∀h,Value.int .u8 (((x[z+i-off]'h).toNat:Nat):Int)=C8 (text[z+i-off]'(by omega))):=λh=>by
       have e1:x[z+i-off]'h=text[z+i-off]'(by omega):=by have:=EX.out;subst this;exact Pp _ _ _ _
       rw[e1];rfl
      gi_wp2
      exact⟨⟨i+1,by simp,by omega,FX.out _ (EV.out _),HK.out.setCell (p:=⟨W.heap.size,i,none⟩) (λ_=>rfl) _⟩,by simp[intOf];omega⟩
     ·by_cases z':off<=z+i
      ·have t2:decide ((0:Int)<=(z:Int)+(i:Int)- (off:Int))=true:=dt (by omega);have t3:decide ((z:Int)+(i:Int)- (off:Int)<(text.length:Int))=false:=dy (by omega);have g7:Hid (ji wr W.heap.size (ma t z off text (i+1))):=by show ji _ _ _;rw[y9 (by rw[m];exact U) ha];exact BY.out
       gi_wp2
       exact⟨⟨i+1,by simp,by omega,g7.out,HK.out⟩,by simp[intOf];omega⟩
      ·have t2:decide ((0:Int)<=(z:Int)+(i:Int)- (off:Int))=false:=dy (by omega);have g7:Hid (ji wr W.heap.size (ma t z off text (i+1))):=by show ji _ _ _;rw[y9 (by rw[m];exact U) ha];exact BY.out
       gi_wp2
       exact⟨⟨i+1,by simp,by omega,g7.out,HK.out⟩,by simp[intOf];omega⟩
    ·have t1:decide ((i:Int)<32)=false:=dy (by omega);have ip:Hid (ji wr W.heap.size (patch t z off text)):=by have:=BY.out;rw[JD _ _ _ _ _ (by omega)]at this;exact this
     have bi:Hid (Below W.heap.size W wr):=an.out.trans (HK.out.below (λk e=>by rw[e];exact aL _) an.out.size);have g0:wr.cell? ⟨w.heap.size,0,none⟩=some (.pointer (some ⟨jb,0,none⟩)):=aO (HB.out.1.ag 0 _ rfl) bi.out;have g1:wr.cell? ⟨jb,5,none⟩=some (.pointer (some ⟨b,0,none⟩)):=aO (io.out.ag 5 _ rfl) bi.out;have m4:(patch t z off text).length=32:=by rw[dX,m]
     obtain⟨pt,i'⟩:=x_ (patch t z off text)
     rw[<-i']at ip m4;clear BY HK d1 d2
     gi_wp2
     refine Free.gJ (.inr ⟨l,rfl⟩) 7 [] (λy=>Below wr.heap.size wr y/\y.cell? ⟨w.heap.size,0,none⟩=some (.pointer (some ⟨jb,0,none⟩))/\y.cell? ⟨jb,5,none⟩=some (.pointer (some ⟨b,0,none⟩))/\ji y W.heap.size pt) (by kernel_rfl) (by kernel_rfl) (by kernel_rfl) (Free.aW (λj mk r hf=>by cases hf)) ⟨(Below.refl _ _).drew,g0,g1,ip.out.bD rfl⟩
      (λ_ _ h g=>⟨h.1.trans (Below.mono g h.1.size),aO h.2.1 g,aO h.2.2.1 g,h.2.2.2.bD (g.block _ h.2.2.2.lt)⟩) ?_
     simp only[eJ,dT];clear g0 g1;iterate 7 (first|(apply Free.ae (Free.wq rfl) rfl;(intro I hB hA;exact Eu (l:=pt) (cap:=cap) rfl (by rw[m4];rfl) Tryz.underlying117 Tryz.underlying5 Tryz.underlying9 (λj L=>hB.2.2.2.cell j L));simp only[Pt])|(apply Free.ae (Free.wq rfl) rfl;(intro I hB hA;obtain⟨qB,q0,q1,qY⟩:=hB;clear hA qB qY;go_light;go_simp<;>rfl);(try simp only[Pt])))
     apply Free.ax;intro wz no _ _;simp only[fm,fo];have ci:=h_ (bi.out.trans (no.1.mono bi.out.size));clear no ip;have WR:=h_ (tV (H4.out.below ci.out) (s:Int) (tx pt) H3.out.2);rw[gH]at WR;have d6:Hid (DD.write n dc (s:Int) pt=DD.write n dc (s:Int) (patch t z off text)):=by show _=_;rw[i']
     have EW:=h_ (Kw (n:=n) (d:=dc) (s:=s) (t:=pt) H2.out f9 m4);obtain⟨r,er⟩:=x_ (DD.write n dc (s:Int) pt)
     rw[<-er]at WR d6 EW;have EN:=nl.out;rw[<-d6.out]at EN;have J:=m9.out;rw[<-d6.out]at J;have EN:=h_ EN;have J:=h_ J;clear nl m9 d6 i' er;obtain⟨r1,c⟩:=r;dsimp only at WR EW EN J;obtain⟨yt,jp⟩:=x_ (⟨pt.toArray⟩:ByteArray)
     have WR:Hid (Calls Tryz.prog 190 #[.pointer (some ⟨b,0,none⟩), .int .i64 (s:Int), .string yt] wz (dK wz b bs bm n pv' r1 (.int .i64 c))):=by rw[jp];exact WR.out
     rw[<-jp];clear jp
     gi_wp2
     refine⟨trivial,Free.dz ?_⟩;refine WR.out.mono ?_;rintro e u ⟨rfl,d8,Z,H,k5,li,mt,lw⟩;obtain⟨kf,O⟩:=MQ (B:=I.heap.size) H4.out ci.out k5 (by omega);have co:Hid (aJ (Fp b bs bm pv) w u):=H5.out.trans O (λj L f=>iY (.inl rfl) H6.out j L f);have dl:Hid (∀j,Z.ownBlock=some j->pv.ownBlock=some j\/w.heap.size<=j):=λj L=>by
      rcases mt j L with h|h
      ·exact H6.out j h
      ·have Q:=ci.out.size;have E:=d7.out;exact .inr (by omega)
     by_cases C:c=0
     ·subst C;obtain rfl:=lw rfl;have o:Hid (KeepsFrom I.heap.size W u/\aJ (FI q jb) W u/\SI w b bs d8 n pv base off text half jb q d (ge++ [k]) u):=by
       obtain⟨b0,b1,b2,b3,b4,b5,b6⟩:=HB.out;have n3:=lM H4.out O b3 (by decide) (by decide) (by decide);have n4:=lM H4.out O b4 (by decide) (by decide) (by decide);have n5:=lM H4.out O b5 (by decide) (by decide) (by decide);have n6:=lM H4.out O b6 (by decide) (by decide) (by decide);have nj:=lM H4.out O io.out (by decide) (by decide) (by decide);refine⟨kf,⟨O.os,O.tape,O.output,O.size,λj L hF=> ?_⟩, ?_⟩
       ·have:j=q+3\/j=q+2\/j=q+1\/j=q\/j=jb:=by unfold FI at hF;omega
        rcases this with rfl|rfl|rfl|rfl|rfl
        ·exact n3.trans b3.symm
        ·exact n4.trans b4.symm
        ·exact n5.trans b5.symm
        ·exact n6.trans b6.symm
        ·exact nj.trans io.out.symm
       ·obtain⟨e1,e2⟩:=EW.out rfl;refine⟨r1,Z,λA=>by rw[J,if_pos rfl],e1.trans hon.symm,by rw[e2,fu];have:=H3.out.1;simp;omega,H,co.out,dl.out,lM H4.out O b0 (by decide) (by decide) (by decide),lM H4.out O b1 (by decide) (by decide) (by decide),lM H4.out O b2 (by decide) (by decide) (by decide),n3,n4,n5,n6⟩
      clear H k5 li mt lw kf O co dl WR EN J
      gi_wp2
      refine⟨trivial,Free.dz ?_⟩;refine(jl _).mono ?_;rintro e w6 ⟨rfl,rfl⟩
      gi_wp2
      exact o.out
     ·have lm:(c==0)=false:=by simpa using C
      have m8:Hid (cA n base off text (cW off text.length) d=(r1,c)):=by have:=EN;rw[if_neg C]at this;exact this
      have o:Hid (KeepsFrom I.heap.size W u/\(cA n base off text (cW off text.length) d).2≠0/\bad c=bad (cA n base off text (cW off text.length) d).2/\dD w b bs bm n pv (cA n base off text (cW off text.length) d).1 u):=by rw[m8.out];refine⟨kf,C,rfl,d8,Z,H,co.out, ?_,dl.out⟩;have Q:=ci.out.size;have E:=d7.out;exact li.imp id (λh=>by omega)
      clear H k5 li mt lw kf O co dl WR EN J m8
      gi_wp2
      refine⟨trivial,Free.dz ?_⟩;refine(gP c _ lm).mono ?_;rintro e w6 ⟨rfl,rfl⟩
      gi_wp2
      exact⟨o.out.1,rfl,o.out.2⟩
  case panic=>
   intro D ch W hD hp V;obtain⟨Q,rfl,h3⟩:=hp;refine⟨by simp, .inl ⟨D,_,rfl,run_takeDeferred V, ?_⟩⟩;show R _ _;rw[ER.out];have e1:b9 n base off text d=cA n base off text (cW off text.length) d:=by unfold b9;rw[if_neg HT.out]
   rw[e1];exact⟨h3.put V (by omega), .inr ⟨Q,rfl⟩⟩
  case done=>
   clear S i8;go_light;rintro D xs W hD m7 ld V;obtain⟨dc,pv',Q,E,h3,T,H,h6,b0,b1,b2,b3,b4,b5,b6⟩:=ld;have hl: ¬text.length=0:=λe=>HT.out (Ky.1 e)
   rw[if_neg hl]at m7;have EQ:Hid (b9 n base off text d=dc.sync):=by
    show _=_;unfold b9;rw[if_neg HT.out, <-m7]
    have:=Q [];rw[DS]at this;exact this
   have SY:=h_ (zL T);have c0:=b0.ag 0 _ rfl;have c1:=(ii.out W pv' H).ag 5 _ rfl;have o:Hid (∀u e,eM W b bs bm n pv' dc.sync.1 (.int .i64 dc.sync.2) e u->dD w b bs bm n pv (b9 n base off text d).1 u/\u.heap[D]? =some (.deferred (some []))):=λu e hp=>by
    obtain⟨_,d8,Z,k1,k2,k3,k4⟩:=hp;rw[EQ.out];refine⟨dD.after H (.inl rfl) h6 ⟨d8,Z,k1,k2,k3,k4⟩, ?_⟩;exact(k2.block D (iS.1 V).1 (l7 T V)).trans V
   have FR:Hid (∀u,dD w b bs bm n pv (b9 n base off text d).1 u->(b9 n base off text d).2=0->R (.returned (.tuple #[])) u):=λu h e=>by rw[ER.out];exact⟨h, .inl ⟨e,rfl⟩⟩
   have FQ:Hid (∀u,dD w b bs bm n pv (b9 n base off text d).1 u->(b9 n base off text d).2≠0->R (.panicked (bad (b9 n base off text d).2)) u):=λu h e=>by rw[ER.out];exact⟨h, .inr ⟨e,rfl⟩⟩
   rw[<-EQ.out]at SY o;obtain⟨r,er⟩:=x_ (b9 n base off text d)
   rw[<-er]at SY o FR FQ;clear Q E h3 T H h6 b0 b1 b2 b3 b4 b5 b6 EQ er ER;obtain⟨r1,c⟩:=r;have SY:Hid (Calls Tryz.prog 191 #[.pointer (some ⟨b,0,none⟩)] W (eM W b bs bm n pv' r1 (.int .i64 c))):=SY.out;refine ff (n:=4) ?_;go_wp2_with fail;refine SY.out.mono ?_;intro e u hp;obtain rfl:=hp.1;obtain⟨f1,f2⟩:=o.out u _ hp;have F1:=h_ f1;have F2:=h_ f2;clear hp f1 f2 o;by_cases C:c=0
   ·have G:=h_ (FR.out _ (F1.out.put F2.out (by omega)) C);subst C;go_wp2_with fail;refine(jl _).mono ?_;rintro e w6 ⟨rfl,rfl⟩;go_wp2_with fail;refine⟨by simp, .inl ⟨D,_,rfl,run_takeDeferred F2.out, ?_⟩⟩;exact⟨_,results_none rfl _ _ _,G.out⟩
   ·have lm:(c==0)=false:=by simpa using C
    have G:=h_ (FQ.out _ (F1.out.put F2.out (by omega)) C);go_wp2_with fail;refine(gP c _ lm).mono ?_;rintro e w6 ⟨rfl,rfl⟩;go_wp2_with fail;refine⟨by simp, .inl ⟨D,_,rfl,run_takeDeferred F2.out, ?_⟩⟩;exact G.out
end Go.Proofs.YtkmbmfengcdmoaaGreatDoor
