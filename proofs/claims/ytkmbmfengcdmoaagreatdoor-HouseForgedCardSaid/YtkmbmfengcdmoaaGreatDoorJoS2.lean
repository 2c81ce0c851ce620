/- Package journal: store, walked. No condition. -/
import Derived.Test.YtkmbmfengcdmoaaGreatDoorZAX
set_option maxRecDepth 100000
set_option linter.all false
namespace Go.Proofs.YtkmbmfengcdmoaaGreatDoor
open Go.RowKit Go.ay Go.Jn Go.Dk Go.Mp Go.Rf Go.Shelf
attribute [local go_sem] Oper.semAt_some
theorem Kw{n s:Nat}{d:DD}{t:List UInt8}(hon:d.on=true)(hs:s<n)(ht:t.length=32)(h:(DD.write n d (s:Int) t).2=0):(DD.write n d (s:Int) t).1.on=true/\(DD.write n d (s:Int) t).1.aF.length=d.aF.length+1:=by
 rcases tW (n:=n) (d:=d) (s:=s) hon hs ht with⟨hw,_⟩|⟨hw,_⟩
 ·rw[hw];have ht:=Go.Jn.lh (d.push (s:Int) t);refine⟨ht.1.trans hon, ?_⟩;show(d.push (s:Int) t).tick.aF.length=_;rw[ht.2.2.1];show(d.aF++ [_]).length=_;simp
 ·rw[hw]at h;exact absurd h (by show ¬((21:Int)=0);decide)
theorem Pp(l:List UInt8)(j:Nat)(h:j<(tx l).size)(h2:j<l.length):(tx l)[j]'h=l[j]'h2:=rfl
section
variable {W W3 W4:World} {b bs bm n B:Nat} {pv':Value} {dc:DD}
theorem MQ(hS:aI W b bs bm pv' dc n)(hb:Below W.heap.size W W3)(hk:aJ (Fp b bs bm pv') W3 W4)(hbm:bm<B):
  KeepsFrom B W W4/\aJ (Fp b bs bm pv') W W4:=by
 have hK:aJ (Fp b bs bm pv') W W4:=aJ.trans (F:=Fp b bs bm pv') (aJ.aY hb) hk (λ_ _ f=>f);refine⟨⟨hK.size,λk o hk1 ho hc=> ?_⟩,hK⟩;have hlt:=(iS.1 ho).1;refine(hK.block k hlt ?_).trans ho;rintro(rfl|rfl|rfl|e)
 ·rw[show W.heap[k]? =_ from hS.bg]at ho;cases ho;cases hc
 ·rw[show W.heap[k]? =_ from hS.st]at ho;cases ho;cases hc
 ·omega
 ·rcases hS.row.2 with⟨rfl,_⟩|⟨g,cap,cur,rfl,_,hh,_⟩
  ·simp[Value.ownBlock]at e
  ·have hgk:g=k:=by simpa[Value.ownBlock]using e
   subst hgk;rw[hh]at ho;cases ho;cases hc
theorem lM{x:Nat}{cs:List Value}{T:TypeId}(hS:aI W b bs bm pv' dc n)(hK:aJ (Fp b bs bm pv') W W4)(h:ay W x cs T)(h1:T≠135)(h2:T≠5)(h3:T≠203):ay W4 x cs T:=
 h.bG (hK.block x h.lt (jG hS h h1 h2 h3))
end
section
variable {W w:World} {b bs bm n D:Nat} {pv pv':Value} {dc:DD}
theorem l7{x:Option (List Deferred)}(h:aI W b bs bm pv' dc n)(hD:W.heap[D]? =some (.deferred x)): ¬Fp b bs bm pv' D:=by
 rintro(rfl|rfl|rfl|e)
 ·rw[show W.heap[D]? =_ from h.bg]at hD;cases hD
 ·rw[show W.heap[D]? =_ from h.st]at hD;cases hD
 ·obtain⟨es,c,hm,_⟩:=h.map;rw[hm]at hD;cases hD
 ·rcases h.row.2 with⟨rfl,_⟩|⟨g,cap,cur,rfl,_,hh,_⟩
  ·simp[Value.ownBlock]at e
  ·have hgk:g=D:=by simpa[Value.ownBlock]using e
   subst hgk;rw[hh]at hD;cases hD
theorem dD.put{x:Option (List Deferred)}(h:dD w b bs bm n pv dc W)(hD:W.heap[D]? =some (.deferred x))(hw:w.heap.size<=D)(o:Obj:= .deferred none):dD w b bs bm n pv dc (W.putObj D o):=by obtain⟨bm',pv',h1,h2,h3,h4⟩:=h;have hk:aJ (λk=>k=D) W (W.putObj D o):=(aJ.refl _ W).grown (grownBy_putObj' W D o) (λk e _=>by cases e;rfl);exact⟨bm',pv',h1.bD hk (λk hf e=>l7 h1 hD (e▸hf)),h2.grown (grownBy_putObj' W D o) (λk e hk=>by cases e;omega),h3,h4⟩
end
theorem Eu{P:Program}{o:Oper}{ρ:Operand->Value}{w:World}{src dst e:TypeId}{x:Operand}{g cap:Nat}{l:List UInt8}(ho:o.op= .convert src dst x)(hx:ρ x= .slice (some ⟨g,0,none⟩) l.length cap)(hs:P.underlying src=some (.slice e))(he:P.underlying e=some (.int .u8))(hd:P.underlying dst=some .string)
  (hc:∀j (hj:j<l.length),w.cell? ⟨g,j,none⟩=some (C8 l[j])):(execOp ρ o).run P w= .ok (.value (.string ⟨l.toArray⟩)) w:=by
 have:=run_convert_bytes_back (P:=P) w src dst e ⟨g,0,none⟩ cap l hs he hd (λj hj=>by rw[addr_add,nW];exact hc j hj);unfold execOp;simp only[ho,hx,Sem.run_bind,this,Result.andThen_ok,Sem.run_pure]
theorem Fh{w:World}{jb b bs bm n:Nat}{pv:Value}{d:DD}(hj:w.cell? ⟨jb,5,none⟩=some (.pointer (some ⟨b,0,none⟩)))(h:aI w b bs bm pv d n)(hoff:d.on=false)(s:Int):
  Calls Tryz.prog 166 #[.pointer (some ⟨jb,0,none⟩), .int .i64 s] w λe w'=>e= .panicked (bad 21)/\w=w':=by
 have R1:=h_ (oW h s);have er:DD.read n d s=([],21):=by unfold DD.read;rw[if_neg (by rw[hoff];decide)]
 rw[er]at R1;have C1:=h_ (gP 21 w rfl);obtain⟨R,eR⟩:=x_ (λe w'=>e= .panicked (bad 21)/\w=w':Ending->World->Prop)
 rw[<-eR];have F:Hid (R (.panicked (bad 21)) w):=by rw[eR];exact⟨rfl,rfl⟩
 clear eR er h;go_enter Tryz.func166,Tryz.ntmps166;go_wp2_with fail;refine R1.out.mono ?_;rintro e w' ⟨rfl,rfl⟩;go_wp2_with fail;refine C1.out.mono ?_;rintro e w' ⟨rfl,rfl⟩;exact⟨rfl,F.out⟩
set_option maxHeartbeats 400000 in
theorem Gp{w:World}{jb b bs bm n a half off:Nat}{pv rv:Value}{br:Bool}{v:Nat×Nat×Nat}{d:DD}{text:List UInt8}(hd:aI w b bs bm pv d n)(hn:4<=n)(hj:ay w jb (dW v a ((n-2) / 2) b rv br) 189)
  (hh:half<=1) (hroom:off+text.length<=32*((n-2) / 2)) (hpend:d.aF.length<=900000):
  Calls Tryz.prog 131 #[.pointer (some ⟨jb,0,none⟩), .int .i64 (half:Int), .int .i64 (off:Int), .string (tx text)] w (Ha w b bs bm n pv (b9 n (2+half*((n-2) / 2)) off text d)):=by
 have hn2:=hd.ok.n2;obtain⟨R,eR⟩:=x_ (Ha w b bs bm n pv (b9 n (2+half*((n-2) / 2)) off text d))
 rw[<-eR];obtain⟨size,es⟩:=x_ ((n-2) / 2)
 rw[<-es]at hj hroom eR;have hhs:half*size<=size:=by
  have:half=0\/half=1:=by omega
  rcases this with rfl|rfl<;>simp
 have HJ:=h_ hj;have HJK:=h_ (fun(W:World) (pv':Value) (hk:aJ (Fp b bs bm pv) w W)=>hj.bG (hk.block jb hj.lt (jG hd hj (by decide) (by decide) (by decide))));have hbm:bm<w.heap.size:=hd.map.lt;have hjb:jb<w.heap.size:=hj.lt;by_cases ht:text= []
 ·have F:Hid (∀w',Below w.heap.size w w'->R (.returned (.tuple #[])) w'):=λw' hb=>by
   rw[eR];unfold b9;rw[if_pos ht];exact⟨⟨bm,pv,hd.below hb,aJ.aY hb, .inl rfl,λ_ h=> .inl h⟩, .inl ⟨rfl,rfl⟩⟩
  have q1:((tx text).toList==([]:List UInt8))=true:=by rw[ht,ByteArray.toList_eq,gH];rfl
  have q2:(tx text).toList.isEmpty=true:=by rw[ht,ByteArray.toList_eq,gH];rfl
  have HBV:Hid (Below w.heap.size w (((w.alloc (.cells #[.pointer (some ⟨jb,0,none⟩)] 101)).alloc (.cells #[.int .i64 (off:Int)] 3)).alloc (.cells #[.string (tx text)] 9))):=(((Below.refl _ w).alloc (aL _) _).alloc (by simp) _).alloc (by simp;omega) _;obtain⟨x,ex⟩:=x_ (tx text)
  rw[<-ex]at HBV q1 q2⊢;clear eR ex ht hd hj;go_enter Tryz.func131,Tryz.ntmps131;go_wp2_with fail;first
   |exact F.out _ HBV.out
   |exact bodyPost_ret (results_none rfl _ _ _) rfl (F.out _ HBV.out)
 ·have hne:(tx text).toList≠ []:=by rw[ByteArray.toList_eq,gH];exact ht
  have q1:((tx text).toList==([]:List UInt8))=false:=by
   cases h:(tx text).toList with
   |nil=>exact absurd h hne
   |cons _ _=>rfl
  have q2:(tx text).toList.isEmpty=false:=by
   cases h:(tx text).toList with
   |nil=>exact absurd h hne
   |cons _ _=>rfl
  have q3:((tx text).toList= [])=False:=eq_false hne;have htl:=ft text;obtain⟨x,ex⟩:=x_ (tx text)
  rw[<-ex]at q1 q2 q3 htl⊢;have EX:=h_ ex;have ER:=h_ eR;have HD:=h_ hd;have HT:=h_ ht;clear hne ex eR hd ht hj;have hmf:∀(fn:Fn) (first cap:Array Value) (w:World),(Instr.makeFunc fn first cap).run Tryz.prog w= .ok (.func fn first cap) w:=λ_ _ _ _=>rfl
  refine xX 4 Tryz.func131 rfl ?_;simp only[Tryz.ntmps131,tY,kq,qA,Nat.reduceAdd,Nat.reduceSub,M0,MZ,M7,M6,xK,xC];refine gI (ff ?_);go_wp2_with fail;refine gI (ff ?_);go_wp2_with fail;refine gI (gI (ff ?_));go_wp2_with fail;first
   |refine(ml jb half off text.length).mono ?_
   |(rw[htl];refine(ml jb half off text.length).mono ?_)
  rintro e w' ⟨rfl,hw'⟩;have HI0:Hid (SI w b bs bm n pv (2+half*size) off text half jb (w.heap.size+3) d [] w'):=by
   have hb3:Below w.heap.size w (((w.alloc (.cells #[.pointer (some ⟨jb,0,none⟩)] 101)).alloc (.cells #[.int .i64 (off:Int)] 3)).alloc (.cells #[.string x] 9)):=(((Below.refl _ w).alloc (aL _) _).alloc (by simp) _).alloc (by simp;omega) _;have hb:Below w.heap.size w w':=by rw[hw'];exact(((hb3.alloc (by simp;omega) _).alloc (by simp;omega) _).alloc (by simp;omega) _).alloc (by simp;omega) _
   refine⟨d,pv,λ_=>rfl,rfl,by simp,HD.out.below hb,aJ.aY hb,λ_ h=> .inl h, ?_⟩;rw[hw'];refine⟨?_, ?_, ?_, ?_, ?_, ?_, ?_⟩
   ·exact bZ (bZ (bZ (bZ (bZ (bZ (eY rfl))))))
   ·exact bZ (bZ (bZ (bZ (bZ (eY (by simp))))))
   ·rw[<-EX.out];exact bZ (bZ (bZ (bZ (eY (by simp)))))
   ·exact eY (by simp)
   ·exact bZ (eY (by simp))
   ·exact bZ (bZ (eY (by simp)))
   ·exact bZ (bZ (bZ (eY (by simp))))
  have hsz:w'.heap.size=w.heap.size+7:=by rw[hw'];simp
  clear hw';go_wp2_with fail;have hq:∃q,q=w.heap.size+1+1+1:=⟨_,rfl⟩
  obtain⟨q,eq⟩:=hq;rw[show w.heap.size+3=w.heap.size+1+1+1 from rfl, <-eq]at HI0;rw[<-eq];have hqq:q=w.heap.size+3:=eq;clear eq;have HSA:Hid (qF w' (q+3) (q+2) (q+1) q jb text.length off half size):=by obtain⟨dc,pv',_,_,_,_,h5,_,_,_,_,h10,h11,h12,h13⟩:=HI0.out;exact⟨h10.ag 0 _ rfl,h11.ag 0 _ rfl,h12.ag 0 _ rfl,h13.ag 0 _ rfl,(HJK.out w' pv' h5).ag 4 _ rfl⟩
  obtain⟨base,eb⟩:=x_ (2+half*size)
  have EB:=h_ eb;rw[<-eb]at HI0 ER;have hbase:base+size<=n:=by omega
  clear eb;refine tT ?_;refine vO (α:=Nat) (n:=4) (encs:=Ij base) (F:=FI q jb) (gf:=224) rfl (enters_of Tryz.func224 (by kernel_rfl) rfl) (λk hk=>⟨by omega,by omega,by omega,by omega,by omega⟩)
   (EB.out▸rh 3 (q+3) (q+2) (q+1) q jb (by decide) (FI q jb) half off text.length size (λh=>h.1 rfl) (λh=>h.2.1 rfl) (λh=>h.2.2.1 rfl) (λh=>h.2.2.2.1 rfl) (λh=>h.2.2.2.2 rfl) hh (by omega) (by omega) (by omega) w' HSA.out) (λ_=>rfl)
   (SI w b bs bm n pv base off text half jb q d) (λch W=>(cA n base off text (cW off text.length) d).2≠0/\ch=bad (cA n base off text (cW off text.length) d).2/\dD w b bs bm n pv (cA n base off text (cW off text.length) d).1 W) (Ob w b bs bm n pv base off text half jb q d _ (by omega) hbm) HI0.out ?a1 ?assign ?body ?done ?panic
  case assign=>
   intro l x W K hK
   gi_wp2
   exact hK
  case body=>
   clear HI0 HSA;go_light;rintro l pre k W hSI hNx;obtain⟨dc,pv',h1,h2,h3,h4,h5,h6,b0,b1,b2,b3,b4,b5,b6⟩:=hSI;obtain⟨rest,hks⟩:=hNx;have hk:k<(off+text.length+31) / 32/\off / 32<=k:=by
    have:k∈cW off text.length:=by rw[<-hks];simp
    unfold cW at this;rw[List.mem_range'_1]at this;omega
   have hpre:pre.length<=4000:=by have h1:(cW off text.length).length=_:=Qa;have h2:=congrArg List.length hks;rw[h1]at h2;simp at h2;omega
   obtain⟨s,hse⟩:=x_ (base+k:Nat)
   obtain⟨z,hze⟩:=x_ (32*k:Nat)
   have es:(s:Int)=(base:Int)+(k:Int):=by omega
   have ez:(z:Int)=32*(k:Int):=by omega
   have hsn:s<n:=by omega
   have hz1:z<=100000:=by omega
   have hon2:off<=100000:=by omega
   obtain⟨t,et⟩:=x_ (sec (nc dc) s)
   have htl32:t.length=32:=by rw[et];exact ij (by rw[mD h4.ok];omega)
   have hjW:=HJK.out W pv' h5;cases hon:d.on with
   |false=>
    have h2f:dc.on=false:=h2.trans hon;have RD:=h_ (Fh (jb:=jb) (w:=W) (hjW.ag 5 _ rfl) h4 h2f (s:Int));have EN:cA n base off text (cW off text.length) d=(dc,21):=by
     rw[<-hks,List.append_assoc,h1,List.singleton_append];have er:DD.read n dc ((base+k:Nat):Int)=([],21):=by unfold DD.read;rw[if_neg (by rw[h2f];decide)]
     show(if _ then _ else _)=_;rw[er];rfl
    have FIN:Hid (KeepsFrom w'.heap.size W W/\(cA n base off text (cW off text.length) d).2≠0/\bad 21=bad (cA n base off text (cW off text.length) d).2/\dD w b bs bm n pv (cA n base off text (cW off text.length) d).1 W):=by rw[EN];exact h_ ⟨KeepsFrom.refl _ _,(show(21:Int)≠0 by decide),rfl,bm,pv',h4,h5, .inl rfl,h6⟩
    have c0:=b0.ag 0 _ rfl;rw[<-es, <-ez];clear h1 h2 h2f h3 h4 h5 h6 b0 b1 b2 b3 b4 b5 b6 hks hk hse hze es ez hjW et EN hon
    gi_wp2
    refine⟨trivial,Free.dz ?_⟩;refine RD.out.mono ?_;rintro e w2 ⟨rfl,rfl⟩
    gi_wp2
    exact⟨FIN.out.1,rfl,FIN.out.2⟩
   |true=>
   replace h2:=h2.trans hon
   have RD:=h_ (sQ (jb:=jb) (w:=W) (hjW.ag 5 _ rfl) h4 h2 s hsn);rw[<-et]at RD;have EQN:Hid (cA n base off text (cW off text.length) d=if(DD.write n dc (s:Int) (patch t z off text)).2=0 then cA n base off text rest (DD.write n dc (s:Int) (patch t z off text)).1 else DD.write n dc (s:Int) (patch t z off text)):=by show _=_;rw[<-hks,List.append_assoc,h1,List.singleton_append];have hr:=tD h4.ok h2 hsn;rw[hse]at hr et;show(if _ then _ else _)=_;rw[hr,if_pos rfl,hse,hze,et]
   have EQ2:Hid (∀rest,cA n base off text ((pre++ [k])++rest) d=if(DD.write n dc (s:Int) (patch t z off text)).2=0 then cA n base off text rest (DD.write n dc (s:Int) (patch t z off text)).1 else DD.write n dc (s:Int) (patch t z off text)):=λrest=>by
    rw[List.append_assoc,h1,List.singleton_append];have hr:=tD h4.ok h2 hsn;rw[hse]at hr et;show(if _ then _ else _)=_;rw[hr,if_pos rfl,hse,hze,et]
   have H2:=h_ h2;have H3:Hid (dc.aF.length<=d.aF.length+pre.length/\dc.aF.length<1000000):=⟨h3,by omega⟩
   have H4:=h_ h4;have H5:=h_ h5;have H6:=h_ h6;have HB:=h_ (And.intro b0 (And.intro b1 (And.intro b2 (And.intro b3 (And.intro b4 (And.intro b5 b6))))));have HSZ:Hid (w.heap.size+7<=W.heap.size):=by have:=b3.lt;show _<=_;omega
   have HJW:=h_ hjW;have c0:=b0.ag 0 _ rfl;have c1:=b1.ag 0 _ rfl;have c2:=b2.ag 0 _ rfl;rw[<-EX.out]at c2;obtain⟨y,ey⟩:=x_ (tx t)
   have hys:y.size=32:=by rw[ey,ft,htl32]
   obtain⟨cap,hcap⟩:=x_ (grownCap W y.size 0 5)
   have hcv:=run_bytes_of_string (P:=Tryz.prog) W 9 117 5 y Tryz.underlying9 Tryz.underlying117 Tryz.underlying5;obtain⟨W2,eW2⟩:=x_ (W.drew.alloc (.cells (bytesRow y (grownCap W y.size 0 5)) 5 ((bytesRow y (grownCap W y.size 0 5)).size,(bytesRow y (grownCap W y.size 0 5)).size+1)))
   have HBY:Hid (ji W2 W.heap.size t):=by rw[eW2,ey];exact(Hp W t).choose_spec.1
   have HB2:Hid (Below W.heap.size W W2):=by rw[eW2];exact(gj W 1).alloc (aL _) _
   rw[<-eW2, <-hcap,hys]at hcv;rw[<-ey]at RD;rw[<-es, <-ez];have HSX:=h_ hse;have HZX:=h_ hze;have HKS:=h_ hks;clear h1 h2 h3 h4 h5 h6 b0 b1 b2 b3 b4 b5 b6 hks hk hse hze es ez hjW ey eW2 hcap et hys
   gi_wp2
   refine⟨trivial,Free.dz ?_⟩;refine RD.out.mono ?_;rintro e w2 ⟨rfl,rfl⟩
   gi_wp2
   have e1:W2.cell? ⟨w.heap.size+1,0,none⟩=some (.int .i64 (off:Int)):=aO c1 HB2.out;have e2:W2.cell? ⟨w.heap.size+1+1,0,none⟩=some (.string x):=aO c2 HB2.out;have E1:=h_ e1;have E2:=h_ e2;have HST:Hid (ji W2 W.heap.size (ma t z off text 0)/\aJ (λk=>k=W.heap.size) W2 W2):=⟨by rw[FH];exact HBY.out,aJ.refl _ _⟩
   clear c0 c1 c2 e1 e2 hcv RD
   gi_loopw [29] (λvi wr=> ∃i:Nat,vi= .int .i64 (i:Int)/\i<=32/\ji wr W.heap.size (ma t z off text i)/\aJ (λk=>k=W.heap.size) W2 wr) (λvi _=>32- (intOf vi).toNat)
   case atStart=>exact⟨0,rfl,by decide,HST.out.1,HST.out.2⟩
   case round=>
    clear HST;obtain⟨i,rfl,hi,hby,hk⟩:=hrel;have d1:=fL E1.out hk (by show ¬w.heap.size+1=W.heap.size;have:=HSZ.out;omega);have d2:=fL E2.out hk (by show ¬w.heap.size+1+1=W.heap.size;have:=HSZ.out;omega);have BY:=h_ hby;have HK:=h_ hk;clear hby hk;by_cases hlt:i<32
    ·have t1:decide ((i:Int)<32)=true:=dt (by omega);by_cases ha:off<=z+i/\z+i<off+text.length
     ·have t2:decide ((0:Int)<=(z:Int)+(i:Int)- (off:Int))=true:=dt (by omega);have t3:decide ((z:Int)+(i:Int)- (off:Int)<(text.length:Int))=true:=dt (by omega);have hxs:(z:Int)+(i:Int)- (off:Int)<(x.size:Int):=by rw[htl];omega
      have bd:=BY.out.cell i (by rw[iu,htl32];exact hlt);have bf:=BY.out.frozen i (by rw[iu,htl32];exact hlt);have FX:Hid (∀v,v=C8 (text[z+i-off]'(by omega))->ji (wr.setCell ⟨W.heap.size,i,none⟩ v) W.heap.size (ma t z off text (i+1))):=λv hv=>by
       rw[hv,Mu (t:=t) (start:=z) (off:=off) (text:=text) (by rw[htl32];exact hlt) ha.1 (eH (by omega))];exact BY.out.set i (by rw[iu,htl32];exact hlt) _
      have EV:Hid (∀h,Value.int .u8 (((x[z+i-off]'h).toNat:Nat):Int)=C8 (text[z+i-off]'(by omega))):=λh=>by
       have e1:x[z+i-off]'h=text[z+i-off]'(by omega):=by have:=EX.out;subst this;exact Pp _ _ _ _
       rw[e1];rfl
      gi_wp2
      exact⟨⟨i+1,by simp,by omega,FX.out _ (EV.out _),HK.out.setCell (p:=⟨W.heap.size,i,none⟩) (λ_=>rfl) _⟩,by simp[intOf];omega⟩
     ·by_cases ha1:off<=z+i
      ·have t2:decide ((0:Int)<=(z:Int)+(i:Int)- (off:Int))=true:=dt (by omega);have t3:decide ((z:Int)+(i:Int)- (off:Int)<(text.length:Int))=false:=dy (by omega);have BY2:Hid (ji wr W.heap.size (ma t z off text (i+1))):=by show ji _ _ _;rw[y9 (by rw[htl32];exact hlt) ha];exact BY.out
       gi_wp2
       exact⟨⟨i+1,by simp,by omega,BY2.out,HK.out⟩,by simp[intOf];omega⟩
      ·have t2:decide ((0:Int)<=(z:Int)+(i:Int)- (off:Int))=false:=dy (by omega);have BY2:Hid (ji wr W.heap.size (ma t z off text (i+1))):=by show ji _ _ _;rw[y9 (by rw[htl32];exact hlt) ha];exact BY.out
       gi_wp2
       exact⟨⟨i+1,by simp,by omega,BY2.out,HK.out⟩,by simp[intOf];omega⟩
    ·have t1:decide ((i:Int)<32)=false:=dy (by omega);have HPA:Hid (ji wr W.heap.size (patch t z off text)):=by have:=BY.out;rw[JD _ _ _ _ _ (by omega)]at this;exact this
     have HBW:Hid (Below W.heap.size W wr):=HB2.out.trans (HK.out.below (λk e=>by rw[e];exact aL _) HB2.out.size);have g0:wr.cell? ⟨w.heap.size,0,none⟩=some (.pointer (some ⟨jb,0,none⟩)):=aO (HB.out.1.ag 0 _ rfl) HBW.out;have g1:wr.cell? ⟨jb,5,none⟩=some (.pointer (some ⟨b,0,none⟩)):=aO (HJW.out.ag 5 _ rfl) HBW.out;have hpl:(patch t z off text).length=32:=by rw[dX,htl32]
     obtain⟨pt,ept⟩:=x_ (patch t z off text)
     rw[<-ept]at HPA hpl;clear BY HK d1 d2
     gi_wp2
     refine Free.gJ (.inr ⟨l,rfl⟩) 7 [] (λy=>Below wr.heap.size wr y/\y.cell? ⟨w.heap.size,0,none⟩=some (.pointer (some ⟨jb,0,none⟩))/\y.cell? ⟨jb,5,none⟩=some (.pointer (some ⟨b,0,none⟩))/\ji y W.heap.size pt) (by kernel_rfl) (by kernel_rfl) (by kernel_rfl) (Free.aW (λj mk r hf=>by cases hf)) ⟨(Below.refl _ _).drew,g0,g1,HPA.out.bD rfl⟩
      (λ_ _ h g=>⟨h.1.trans (Below.mono g h.1.size),aO h.2.1 g,aO h.2.2.1 g,h.2.2.2.bD (g.block _ h.2.2.2.lt)⟩) ?_
     simp only[eJ,dT];clear g0 g1;iterate 7 (first|(apply Free.ae (Free.wq rfl) rfl;(intro w' hB hA;exact Eu (l:=pt) (cap:=cap) rfl (by rw[hpl];rfl) Tryz.underlying117 Tryz.underlying5 Tryz.underlying9 (λj hj=>hB.2.2.2.cell j hj));simp only[Pt])|(apply Free.ae (Free.wq rfl) rfl;(intro w' hB hA;obtain⟨qB,q0,q1,qY⟩:=hB;clear hA qB qY;go_light;go_simp<;>rfl);(try simp only[Pt])))
     apply Free.ax;intro wz hBz _ _;simp only[fm,fo];have HBZ:=h_ (HBW.out.trans (hBz.1.mono HBW.out.size));clear hBz HPA;have WR:=h_ (tV (H4.out.below HBZ.out) (s:Int) (tx pt) H3.out.2);rw[gH]at WR;have HRW:Hid (DD.write n dc (s:Int) pt=DD.write n dc (s:Int) (patch t z off text)):=by show _=_;rw[ept]
     have EW:=h_ (Kw (n:=n) (d:=dc) (s:=s) (t:=pt) H2.out hsn hpl);obtain⟨r,er⟩:=x_ (DD.write n dc (s:Int) pt)
     rw[<-er]at WR HRW EW;have EN:=EQN.out;rw[<-HRW.out]at EN;have EN2:=EQ2.out;rw[<-HRW.out]at EN2;have EN:=h_ EN;have EN2:=h_ EN2;clear EQN EQ2 HRW ept er;obtain⟨r1,c⟩:=r;dsimp only at WR EW EN EN2;obtain⟨yt,eyt⟩:=x_ (⟨pt.toArray⟩:ByteArray)
     have WR:Hid (Calls Tryz.prog 190 #[.pointer (some ⟨b,0,none⟩), .int .i64 (s:Int), .string yt] wz (dK wz b bs bm n pv' r1 (.int .i64 c))):=by rw[eyt];exact WR.out
     rw[<-eyt];clear eyt
     gi_wp2
     refine⟨trivial,Free.dz ?_⟩;refine WR.out.mono ?_;rintro e w5 ⟨rfl,bm5,pv5,h5,k5,hb5,hp5,hm5⟩;obtain⟨kf,kk⟩:=MQ (B:=w'.heap.size) H4.out HBZ.out k5 (by omega);have HK5:Hid (aJ (Fp b bs bm pv) w w5):=H5.out.trans kk (λj hj f=>iY (.inl rfl) H6.out j hj f);have HP5:Hid (∀j,pv5.ownBlock=some j->pv.ownBlock=some j\/w.heap.size<=j):=λj hj=>by
      rcases hp5 j hj with h|h
      ·exact H6.out j h
      ·have h1:=HBZ.out.size;have h2:=HSZ.out;exact .inr (by omega)
     by_cases hc0:c=0
     ·subst hc0;obtain rfl:=hm5 rfl;have FIN:Hid (KeepsFrom w'.heap.size W w5/\aJ (FI q jb) W w5/\SI w b bs bm5 n pv base off text half jb q d (pre++ [k]) w5):=by
       obtain⟨b0,b1,b2,b3,b4,b5,b6⟩:=HB.out;have n3:=lM H4.out kk b3 (by decide) (by decide) (by decide);have n4:=lM H4.out kk b4 (by decide) (by decide) (by decide);have n5:=lM H4.out kk b5 (by decide) (by decide) (by decide);have n6:=lM H4.out kk b6 (by decide) (by decide) (by decide);have nj:=lM H4.out kk HJW.out (by decide) (by decide) (by decide);refine⟨kf,⟨kk.os,kk.tape,kk.output,kk.size,λj hj hF=> ?_⟩, ?_⟩
       ·have:j=q+3\/j=q+2\/j=q+1\/j=q\/j=jb:=by unfold FI at hF;omega
        rcases this with rfl|rfl|rfl|rfl|rfl
        ·exact n3.trans b3.symm
        ·exact n4.trans b4.symm
        ·exact n5.trans b5.symm
        ·exact n6.trans b6.symm
        ·exact nj.trans HJW.out.symm
       ·obtain⟨e1,e2⟩:=EW.out rfl;refine⟨r1,pv5,λrest=>by rw[EN2,if_pos rfl],e1.trans hon.symm,by rw[e2,fu];have:=H3.out.1;simp;omega,h5,HK5.out,HP5.out,lM H4.out kk b0 (by decide) (by decide) (by decide),lM H4.out kk b1 (by decide) (by decide) (by decide),lM H4.out kk b2 (by decide) (by decide) (by decide),n3,n4,n5,n6⟩
      clear h5 k5 hb5 hp5 hm5 kf kk HK5 HP5 WR EN EN2
      gi_wp2
      refine⟨trivial,Free.dz ?_⟩;refine(jl _).mono ?_;rintro e w6 ⟨rfl,rfl⟩
      gi_wp2
      exact FIN.out
     ·have hcb:(c==0)=false:=by simpa using hc0
      have EN3:Hid (cA n base off text (cW off text.length) d=(r1,c)):=by have:=EN;rw[if_neg hc0]at this;exact this
      have FIN:Hid (KeepsFrom w'.heap.size W w5/\(cA n base off text (cW off text.length) d).2≠0/\bad c=bad (cA n base off text (cW off text.length) d).2/\dD w b bs bm n pv (cA n base off text (cW off text.length) d).1 w5):=by rw[EN3.out];refine⟨kf,hc0,rfl,bm5,pv5,h5,HK5.out, ?_,HP5.out⟩;have h1:=HBZ.out.size;have h2:=HSZ.out;exact hb5.imp id (λh=>by omega)
      clear h5 k5 hb5 hp5 hm5 kf kk HK5 HP5 WR EN EN2 EN3
      gi_wp2
      refine⟨trivial,Free.dz ?_⟩;refine(gP c _ hcb).mono ?_;rintro e w6 ⟨rfl,rfl⟩
      gi_wp2
      exact⟨FIN.out.1,rfl,FIN.out.2⟩
  case panic=>
   intro D ch W hD hp hmk;obtain⟨h1,rfl,h3⟩:=hp;refine⟨by simp, .inl ⟨D,_,rfl,run_takeDeferred hmk, ?_⟩⟩;show R _ _;rw[ER.out];have e1:b9 n base off text d=cA n base off text (cW off text.length) d:=by unfold b9;rw[if_neg HT.out]
   rw[e1];exact⟨h3.put hmk (by omega), .inr ⟨h1,rfl⟩⟩
  case done=>
   clear HI0 HSA;go_light;rintro D xs W hD hxs hSI hmk;obtain⟨dc,pv',h1,h2,h3,h4,h5,h6,b0,b1,b2,b3,b4,b5,b6⟩:=hSI;have hl: ¬text.length=0:=λe=>HT.out (Ky.1 e)
   rw[if_neg hl]at hxs;have EQ:Hid (b9 n base off text d=dc.sync):=by
    show _=_;unfold b9;rw[if_neg HT.out, <-hxs]
    have:=h1 [];rw[DS]at this;exact this
   have SY:=h_ (zL h4);have c0:=b0.ag 0 _ rfl;have c1:=(HJK.out W pv' h5).ag 5 _ rfl;have FIN:Hid (∀w5 e,eM W b bs bm n pv' dc.sync.1 (.int .i64 dc.sync.2) e w5->dD w b bs bm n pv (b9 n base off text d).1 w5/\w5.heap[D]? =some (.deferred (some []))):=λw5 e hp=>by
    obtain⟨_,bm5,pv5,k1,k2,k3,k4⟩:=hp;rw[EQ.out];refine⟨dD.after h5 (.inl rfl) h6 ⟨bm5,pv5,k1,k2,k3,k4⟩, ?_⟩;exact(k2.block D (iS.1 hmk).1 (l7 h4 hmk)).trans hmk
   have FR:Hid (∀w5,dD w b bs bm n pv (b9 n base off text d).1 w5->(b9 n base off text d).2=0->R (.returned (.tuple #[])) w5):=λw5 h e=>by rw[ER.out];exact⟨h, .inl ⟨e,rfl⟩⟩
   have FQ:Hid (∀w5,dD w b bs bm n pv (b9 n base off text d).1 w5->(b9 n base off text d).2≠0->R (.panicked (bad (b9 n base off text d).2)) w5):=λw5 h e=>by rw[ER.out];exact⟨h, .inr ⟨e,rfl⟩⟩
   rw[<-EQ.out]at SY FIN;obtain⟨r,er⟩:=x_ (b9 n base off text d)
   rw[<-er]at SY FIN FR FQ;clear h1 h2 h3 h4 h5 h6 b0 b1 b2 b3 b4 b5 b6 EQ er ER;obtain⟨r1,c⟩:=r;have SY:Hid (Calls Tryz.prog 191 #[.pointer (some ⟨b,0,none⟩)] W (eM W b bs bm n pv' r1 (.int .i64 c))):=SY.out;refine ff (n:=4) ?_;go_wp2_with fail;refine SY.out.mono ?_;intro e w5 hp;obtain rfl:=hp.1;obtain⟨f1,f2⟩:=FIN.out w5 _ hp;have F1:=h_ f1;have F2:=h_ f2;clear hp f1 f2 FIN;by_cases hc0:c=0
   ·have G:=h_ (FR.out _ (F1.out.put F2.out (by omega)) hc0);subst hc0;go_wp2_with fail;refine(jl _).mono ?_;rintro e w6 ⟨rfl,rfl⟩;go_wp2_with fail;refine⟨by simp, .inl ⟨D,_,rfl,run_takeDeferred F2.out, ?_⟩⟩;exact⟨_,results_none rfl _ _ _,G.out⟩
   ·have hcb:(c==0)=false:=by simpa using hc0
    have G:=h_ (FQ.out _ (F1.out.put F2.out (by omega)) hc0);go_wp2_with fail;refine(gP c _ hcb).mono ?_;rintro e w6 ⟨rfl,rfl⟩;go_wp2_with fail;refine⟨by simp, .inl ⟨D,_,rfl,run_takeDeferred F2.out, ?_⟩⟩;exact G.out
end Go.Proofs.YtkmbmfengcdmoaaGreatDoor
