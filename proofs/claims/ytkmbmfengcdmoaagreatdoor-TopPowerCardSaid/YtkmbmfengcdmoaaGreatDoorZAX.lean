/- Package journal: try. No condition. -/
import Derived.Test.YtkmbmfengcdmoaaGreatDoorZAW
import Derived.Test.YtkmbmfengcdmoaaGreatDoorZAV
import Derived.Deep.MidRow
import Derived.Test.YtkmbmfengcdmoaaGreatDoorZAE
import Derived.Test.YtkmbmfengcdmoaaGreatDoorZAA
import Derived.Defers
import Derived.Recover
set_option linter.all false
set_option maxRecDepth 100000
namespace Go.Jn
theorem uQ:∀(s:List UInt8) (a m:Nat),jm s a=some m->m<(a+1)*10 ^ s.length
 | [],a,m,h=>by simp only[jm]at h;cases h;simp
 |b::s,a,m,h=>by
  unfold jm at h;split at h
  ·rename_i d
   have:=uQ s _ m h;rw[kq,GL];have c:10*a+(b.toNat-48)+1<=(a+1)*10:=by omega
   calc m<(10*a+(b.toNat-48)+1)*10 ^ s.length:=this
    _<=((a+1)*10)*10 ^ s.length:=Nat.mul_le_mul_right _ c
    _=(a+1)*(10 ^ s.length*10):=by rw[P6,B8 10]
  ·cases h
theorem vw{s:List UInt8}{room:Nat}{v:Nat×Nat×Nat}(h:bN s room=some v):v.1<=999999999:=by
 unfold bN at h;split at h
 ·rename_i d;split at h
  ·cases h
  ·rename_i a c;split at h
   ·cases h
   ·split at h
    ·split at h
     ·cases h
     ·split at h
      ·cases h
       have:=uQ _ 0 a c;rw[jQ]at this;have e:min 9 s.length=9:=by omega
       rw[e]at this;show a<=999999999;omega
      ·cases h
    ·cases h
 ·cases h
theorem JI{a b:List UInt8}{room:Nat}{v:Nat×Nat×Nat}{at_:Nat}(h:dp a b room=some (v,at_)):v.1<=999999999:=by
 rcases kO h with h|h|h
 ·exact vw h.2
 ·exact vw h.2
 ·rw[h.2.1];exact gu _
end Go.Jn
namespace Go.Proofs.YtkmbmfengcdmoaaGreatDoor
open Go.RowKit Go.ay Go.Jn Go.Dk Go.Mp

def dW(v:Nat×Nat×Nat)(a size b:Nat)(rv:Value)(br:Bool):List Value:=
 [.int .i64 (v.1:Int), .int .i64 (v.2.1:Int), .int .i64 (v.2.2:Int), .int .i64 (a:Int), .int .i64 (size:Int), .pointer (some ⟨b,0,none⟩),rv, .bool br]
def fY(w:World)(base:Nat)(rv:Value)(l:List (List UInt8)):Prop:=w.ownsRow base 9 1 rv l.length ((l.map tx).flatMap lR)
structure Cc (w:World) (jb b bs bm:Nat) (pv rv:Value) (n:Nat) (s:JS):Prop where
 n4:4<=n
 ly:aI w b bs bm pv s.d n
 bg:ay w jb (dW s.v s.a ((n-2) / 2) b rv s.broken) 189
 row:fY w 0 rv s.bW
 num:s.v.1<=999999999
 hf:s.v.2.1<=1
 len:s.v.2.2<=32*((n-2) / 2)
 at_:s.a<=1
def pD(jb b bs bm:Nat)(pv rv:Value)(k:Nat):Prop:=k=jb\/rv.ownBlock=some k\/Fp b bs bm pv k
section
variable {w w':World} {jb b bs bm n:Nat} {pv rv:Value} {s:JS}
theorem fY.bD{base:Nat}{l:List (List UInt8)}(h:fY w base rv l)(a:∀k,rv.ownBlock=some k->w'.heap[k]? =w.heap[k]?):fY w' base rv l:=bC h a
theorem Cc.bD{F:Nat->Prop}(h:Cc w jb b bs bm pv rv n s)(c:aJ F w w')(a:∀k,pD jb b bs bm pv rv k-> ¬F k):Cc w' jb b bs bm pv rv n s:=
 ⟨h.n4,h.ly.bD c (λk d=>a k (.inr (.inr d))),h.bg.bG (c.block jb h.bg.lt (a jb (.inl rfl))),
  h.row.bD (λk e=>c.block k (World.ownsRow.lt h.row k e).2 (a k (.inr (.inl e)))),h.num,h.hf,h.len,h.at_⟩
theorem Cc.lt(h:Cc w jb b bs bm pv rv n s){k:Nat}(a:pD jb b bs bm pv rv k):k<w.heap.size:=by
 rcases a with rfl|e|e
 ·exact h.bg.lt
 ·exact(World.ownsRow.lt h.row k e).2
 ·exact h.ly.lt e
theorem Cc.below(h:Cc w jb b bs bm pv rv n s)(a:Below w.heap.size w w'):Cc w' jb b bs bm pv rv n s:=h.bD (F:=λ_=>False) (aJ.aY a) (λ_ _ f=>f)
theorem jG{cs:List Value}{T:TypeId}{d:DD}{x:Nat}(h:aI w b bs bm pv d n)(a:ay w x cs T)(f:T≠135)(g:T≠5)(i:T≠203): ¬Fp b bs bm pv x:=by
 rintro(rfl|rfl|rfl|e)
 ·have:=h.bg.symm.trans a;simp at this;exact f this.2.symm
 ·have:=h.st.symm.trans a;simp at this;exact g this.2.symm
 ·obtain⟨j,c,hm,_⟩:=h.map
  have:=a.symm.trans hm;simp at this
 ·exact iM h.row a (nq i) e
theorem qp{d:DD}{base m:Nat}{e:TypeId}{size:Nat}{v:Value}{y:List Value}(h:aI w b bs bm pv d n)(f:w.ownsRow base e size v m y)(r:e≠135)(t:e≠5)(u:e≠203){k:Nat}(c:v.ownBlock=some k): ¬Fp b bs bm pv k:=by
 rintro(rfl|rfl|rfl|e')
 ·exact iM f h.bg r c
 ·exact iM f h.st t c
 ·exact nJ f h.map c
 ·rcases f.2 with⟨rfl,_⟩|⟨g,o,p,rfl,_,x,_⟩
  ·simp[Value.ownBlock]at c
  ·have i:g=k:=by simpa[Value.ownBlock]using c
   subst i;rcases h.row.2 with⟨hz,_⟩|⟨q,j,l,hz,_,a,_⟩
   ·rw[hz]at e';simp[Value.ownBlock]at e'
   ·rw[hz]at e'
    have:q=g:=by simpa[Value.ownBlock]using e'
    subst this;rw[x]at a;simp at a;exact u a.2
end
theorem Cp{n:Nat}{d:DD}(h:d.Ok n)(a:d.on=true){s:Nat}(c:s<n):(DD.read n d (s:Int)).2=0/\(⟨(DD.read n d (s:Int)).1.toArray⟩:ByteArray)=tx (sec (nc d) s):=by rw[tD h a c];exact⟨rfl,rfl⟩
theorem sQ{w:World}{jb b bs bm n:Nat}{pv:Value}{d:DD}(g:w.cell? ⟨jb,5,none⟩=some (.pointer (some ⟨b,0,none⟩)))(h:aI w b bs bm pv d n)(a:d.on=true)(s:Nat)(i:s<n):
  Calls Tryz.prog 166 #[.pointer (some ⟨jb,0,none⟩), .int .i64 (s:Int)] w λe w'=>e= .returned (.string (tx (sec (nc d) s)))/\w=w':=by
 obtain⟨c,f⟩:=Cp h.ok a i
 have:=IW g h (s:Int) c;rw[f]at this;exact this
theorem RJ{w:World}{b:Nat}{cs:List Value}{T:TypeId}(h:ay w b cs T)(x y z:Value):ay (w.setCells b 0 [x,y,z]) b (((cs.set 0 x).set 1 y).set 2 z) T:=by have:=((h.set 0 x).set 1 y).set 2 z;exact this
theorem uZ{F:Nat->Prop}{a w:World}{b:Nat}(h:aJ F a w)(c:b<a.heap.size->F b)(x y z:Value):aJ F a (w.setCells b 0 [x,y,z]):=
 ((h.setCell (p:=⟨b,0,none⟩) c x).setCell (p:=⟨b,1,none⟩) c y).setCell (p:=⟨b,2,none⟩) c z
def SE(r:Option (Nat×Nat×Nat))(v:Nat×Nat×Nat)(k:Bool):Prop:=(k=true/\r=some v)\/(k=false/\r=none/\v=(0,0,0))
theorem y7{r:Option (Nat×Nat×Nat)}{w w':World}{e:Ending}(h:vW r w e w'):Below w.heap.size w w'/\∃(x y z:Nat) (k:Bool),e= .returned (.tuple #[nQ x y z, .bool k])/\SE r (x,y,z) k:=by
 obtain⟨d,⟨a,c⟩|⟨v,a,c⟩⟩:=h
 ·exact⟨d,0,0,0,false,c, .inr ⟨rfl,a,rfl⟩⟩
 ·exact⟨d,v.1,v.2.1,v.2.2,true,c, .inl ⟨rfl,a⟩⟩
set_option maxHeartbeats 400000 in
theorem zb{w:World}{jb b bs bm n:Nat}{pv rv:Value}{d:DD}(Z:aI w b bs bm pv d n)(an:d.on=true)(hn:4<=n)(K:ay w jb (dW (0,0,0) 0 ((n-2) / 2) b rv false) 189):
  Calls Tryz.prog 104 #[.pointer (some ⟨jb,0,none⟩)] w λe w'=>aJ (λk=>k=jb) w w'/\
   ((dp (sec (nc d) 0) (sec (nc d) 1) (32*((n-2) / 2))=none/\e= .returned (.bool false))\/
    ∃v a,dp (sec (nc d) 0) (sec (nc d) 1) (32*((n-2) / 2))=some (v,a)/\e= .returned (.bool true)/\ay w' jb (dW v a ((n-2) / 2) b rv false) 189):=by
 have gc:=Z.ok.n2;obtain⟨size,es⟩:=x_ ((n-2) / 2)
 rw[<-es]at K⊢;have ge:size<=2000:=by omega
 have l0:(sec (nc d) 0).length=32:=ij (by rw[mD Z.ok];omega);have l1:(sec (nc d) 1).length=32:=ij (by rw[mD Z.ok];omega);have HD:=h_ (fun(w':World) (m:Below w.heap.size w w') (s:Nat) (hs:s<n)=>sQ (jb:=jb) (w:=w') (by exact(K.below m K.lt).ag 5 _ rfl) (Z.below m) an s hs);have E:=h_ (fun(w':World) (m:Below w.heap.size w w')=>zn (w:=w') (jb:=jb) size ((K.below m K.lt).ag 4 _ rfl) (by omega));obtain⟨room,er⟩:=x_ (32*size)
 rw[<-er]at E⊢;have HP:=h_ (fun(w':World) (s:List UInt8) (hs:s.length=32)=>AU (tx s) room w' (by omega) (by rw[ft];omega));obtain⟨c,e0⟩:=x_ (sec (nc d) 0)
 obtain⟨f,e1⟩:=x_ (sec (nc d) 1)
 rw[<-e0]at l0⊢;rw[<-e1]at l1⊢;have R0:=h_ (fun(w':World) (m:Below w.heap.size w w')=>HD.out w' m 0 (by omega));have R1:=h_ (fun(w':World) (m:Below w.heap.size w w')=>HD.out w' m 1 (by omega));rw[<-e0]at R0;rw[<-e1]at R1;have P0:=h_ (λw'=>HP.out w' c l0);have P1:=h_ (λw'=>HP.out w' f l1);rw[gH]at P0 P1;obtain⟨R,eR⟩:∃R:Ending->World->Prop,R=λe w'=>aJ (λk=>k=jb) w w'/\
   ((dp c f room=none/\e= .returned (.bool false))\/∃v a,dp c f room=some (v,a)/\e= .returned (.bool true)/\ay w' jb (dW v a size b rv false) 189):=⟨_,rfl⟩
 rw[<-eR];have FN:Hid (dp c f room=none->∀w',aJ (λk=>k=jb) w w'->R (.returned (.bool false)) w'):=λh w' hk=>by rw[eR];exact⟨hk, .inl ⟨h,rfl⟩⟩
 have FS:Hid (∀v a,dp c f room=some (v,a)->∀w',aJ (λk=>k=jb) w w'->ay w' jb (dW v a size b rv false) 189->R (.returned (.bool true)) w'):=λv a h w' hk m=>by rw[eR];exact⟨hk, .inr ⟨v,a,h,rfl,m⟩⟩
 have HJ:=h_ K
 /-have G2:Hid (∀a b c:Nat,(Tryz.prog.info? 187).map (·.size)=some (#[Value.int .i64 (a:Int), .int .i64 (b:Int), .int .i64 (c:Int)]:Array Value).size):=fun a b c=>by kernel_rfl
 have G1:Hid (∀a b c:Nat,(#[Value.int .i64 (a:Int), .int .i64 (b:Int), .int .i64 (c:Int)].all (·.oneCell'))=true):=fun a b c=>by simp[Value.oneCell']-/
 have C:=h_ (Below.refl w.heap.size w);clear eR Z K HD HP an e0 e1 er;go_enter Tryz.func104,Tryz.ntmps104;go_wp2_with fail;refine(R0.out _ C.out).mono ?_;rintro e w' ⟨rfl,rfl⟩;go_wp2_with fail;refine(R1.out _ C.out).mono ?_;rintro e w' ⟨rfl,rfl⟩;go_wp2_with fail;refine(E.out _ C.out).mono ?_;rintro e w' ⟨rfl,rfl⟩;go_wp2_with fail;refine(P0.out _).mono ?_;rintro e w1 bi;obtain⟨Y,O,y0,z0,k0,rfl,co⟩:=y7 bi;have q:=h_ Y;have d7:=h_ co;clear Y bi co;unfold nQ;go_wp2_with fail;refine(E.out _ (q.out.alloc q.out.size _)).mono ?_;rintro e w' ⟨rfl,rfl⟩;go_wp2_with fail;refine(P1.out _).mono ?_;rintro e T ci;obtain⟨J,A,y1,z1,k1,rfl,dl⟩:=y7 ci;have V:Hid (Below w.heap.size w T):=(q.out.alloc q.out.size _).trans (J.mono (fO q.out.size (by simp)));have kA:Hid (ay T w1.heap.size [.int .i64 (O:Int), .int .i64 (y0:Int), .int .i64 (z0:Int)] 187):=(ay.new w1 _ _).below J (by simp);have W:=h_ dl;clear J ci dl;have g:Hid (Below w.heap.size w (T.alloc (.cells #[.int .i64 (A:Int), .int .i64 (y1:Int), .int .i64 (z1:Int)] 187))):=V.out.alloc V.out.size _;obtain⟨W3,r⟩:=x_ (T.alloc (.cells #[.int .i64 (A:Int), .int .i64 (y1:Int), .int .i64 (z1:Int)] 187))
 have kB:Hid (ay W3 T.heap.size [.int .i64 (A:Int), .int .i64 (y1:Int), .int .i64 (z1:Int)] 187):=by rw[r];exact ay.new T _ _
 have N:Hid (ay W3 w1.heap.size [.int .i64 (O:Int), .int .i64 (y0:Int), .int .i64 (z0:Int)] 187):=by rw[r];exact kA.out.alloc _
 have a0:=N.out.ag 0 _ rfl;have a1:=N.out.ag 1 _ rfl;have a2:=N.out.ag 2 _ rfl;have b0:=kB.out.ag 0 _ rfl;have b1:=kB.out.ag 1 _ rfl;have b2:=kB.out.ag 2 _ rfl;rw[<-r]at g;have i:=h_ (HJ.out.below g.out HJ.out.lt);have F:Hid (∀v a,dp c f room=some (v,a)->R (.returned (.bool true)) ((W3.setCells jb 0 [.int .i64 (v.1:Int), .int .i64 (v.2.1:Int), .int .i64 (v.2.2:Int)]).setCell ⟨jb,3,none⟩ (.int .i64 (a:Int)))):=λv a h=>
  FS.out v a h _ ((uZ (F:=λk=>k=jb) (aJ.aY g.out) (λ_=>rfl) _ _ _).setCell (p:=⟨jb,3,none⟩) (λ_=>rfl) _) ((RJ i.out _ _ _).set 3 _)
 have j0:=i.out.ag 0 _ rfl;have j1:=i.out.ag 1 _ rfl;have j2:=i.out.ag 2 _ rfl;have j3:=i.out.ag 3 _ rfl;have d8:=i.out.frozen 0;have d9:=i.out.frozen 1;have f8:=i.out.frozen 2;have f9:=i.out.frozen 3;unfold nQ;have B:=h_ r;clear r;have F0:=h_ (fun(h:dp c f room=some ((O,y0,z0),0))=>F.out (O,y0,z0) 0 h);have F1:=h_ (fun(h:dp c f room=some ((A,y1,z1),1))=>F.out (A,y1,z1) 1 h);rcases d7.out with⟨rfl,t⟩|⟨rfl,t,d6⟩
 ·rcases W.out with⟨rfl,o⟩|⟨rfl,o,M⟩
  ·by_cases hc:A<=O
   ·have t1:decide ((A:Int)<=(O:Int))=true:=dt (by omega);have G:=h_ (F0.out (by unfold dp;rw[t,o];simp only;rw[if_pos hc]));clear t o;go_wp2_with (rw[<-B.out])
    exact G.out
   ·have t1:decide ((A:Int)<=(O:Int))=false:=dy (by omega);have G:=h_ (F1.out (by unfold dp;rw[t,o];simp only;rw[if_neg hc]));clear t o;go_wp2_with (rw[<-B.out])
    exact G.out
  ·have G:=h_ (F0.out (by unfold dp;rw[t,o]));clear t o M;go_wp2_with (rw[<-B.out])
   exact G.out
 ·rcases W.out with⟨rfl,o⟩|⟨rfl,o,M⟩
  ·have G:=h_ (F1.out (by unfold dp;rw[t,o]));clear t o d6;go_wp2_with (rw[<-B.out])
   exact G.out
  ·have Q:=h_ (fun(h:dp c f room=some ((0,0,0),0)) (w':World) (m:Below w.heap.size w w')=>FS.out (0,0,0) 0 h w' (aJ.aY m) (HJ.out.below m HJ.out.lt));have U:=h_ (fun(h:dp c f room=none) (w':World) (m:Below w.heap.size w w')=>FN.out h w' (aJ.aY m));have hp:dp c f room=if c=List.replicate 32 0\/f=List.replicate 32 0 then some ((0,0,0),0)else none:=by unfold dp;rw[t,o]
   rw[hp]at Q U;have P:=h_ (λw=>sP w);obtain⟨bl,I⟩:=x_ (tx (List.replicate 32 0))
   rw[<-I]at P;have L:∀s:List UInt8,(s=List.replicate 32 0)↔((tx s).toList==bl.toList)=true:=λs=>by
    rw[I,beq_iff_eq,ByteArray.toList_eq,ByteArray.toList_eq,gH,gH]
   clear F F0 F1 d6 M hp t o FS FN I a0 a1 a2 b0 b1 b2 j0 j1 j2 j3 d8 d9 f8 f9;by_cases H:c=List.replicate 32 0
   ·have G:=h_ (Q.out (by rw[if_pos (.inl H)]));have q0:((tx c).toList==bl.toList)=true:=(L c).1 H;obtain⟨x,z⟩:=x_ (tx c)
    rw[<-z]at q0⊢;clear H L Q U z;go_wp2_with (rw[<-B.out])
    refine(P.out _).mono ?_;rintro e w4 ⟨rfl,j⟩;have l:=h_ (g.out.trans (j.mono g.out.size));clear j;go_wp2_with fail;exact G.out _ l.out
   ·have q0:((tx c).toList==bl.toList)=false:=by
     cases h:((tx c).toList==bl.toList)with
     |false=>rfl
     |true=>exact absurd ((L c).2 h) H
    by_cases S:f=List.replicate 32 0
    ·have G:=h_ (Q.out (by rw[if_pos (.inr S)]));have q1:((tx f).toList==bl.toList)=true:=(L f).1 S;obtain⟨x,z⟩:=x_ (tx c)
     obtain⟨y,X⟩:=x_ (tx f)
     rw[<-z]at q0⊢;rw[<-X]at q1⊢;clear H S L Q U z X;go_wp2_with (rw[<-B.out])
     refine(P.out _).mono ?_;rintro e w4 ⟨rfl,j⟩;have l:=h_ (g.out.trans (j.mono g.out.size));clear j;go_wp2_with fail;refine(P.out _).mono ?_;rintro e w5 ⟨rfl,u⟩;have D:=h_ (l.out.trans (u.mono l.out.size));clear u;go_wp2_with fail;exact G.out _ D.out
    ·have G:=h_ (U.out (by rw[if_neg (λh=>h.elim H S)]));have q1:((tx f).toList==bl.toList)=false:=by
      cases h:((tx f).toList==bl.toList)with
      |false=>rfl
      |true=>exact absurd ((L f).2 h) S
     obtain⟨x,z⟩:=x_ (tx c)
     obtain⟨y,X⟩:=x_ (tx f)
     rw[<-z]at q0⊢;rw[<-X]at q1⊢;clear H S L Q U z X;go_wp2_with (rw[<-B.out])
     refine(P.out _).mono ?_;rintro e w4 ⟨rfl,j⟩;have l:=h_ (g.out.trans (j.mono g.out.size));clear j;go_wp2_with fail;refine(P.out _).mono ?_;rintro e w5 ⟨rfl,u⟩;have D:=h_ (l.out.trans (u.mono l.out.size));clear u;go_wp2_with fail;exact G.out _ D.out
end Go.Proofs.YtkmbmfengcdmoaaGreatDoor
namespace Go.Jn
theorem qg(st:List UInt8)(base:Nat):∀m,32*(base+m)<=st.length->(List.range' 0 m).flatMap (λk=>sec st (base+k))=(st.drop (32*base)).take (32*m)
 |0,_=>by simp
 |m+1,h=>by
  rw[List.range'_concat,DU,qg st base m (by omega)];simp only[nW,Nat.one_mul,BZ,Se,DS];unfold sec;rw[Nat.mul_add 32 m 1,KJ,List.take_add,List.drop_drop];congr 3;omega
theorem Fa(st:List UInt8)(size h len:Nat)(c:32*(2+h*size+(len+31) / 32)<=st.length):
  ((if len=0 then []else Go.Jn.cW 0 len).flatMap (λk=>sec st (2+h*size+k))).take len=half st size h len:=by
 by_cases a:len=0
 ·subst a;simp[half]
 ·rw[if_neg a];unfold cW;rw[nW,Nat.zero_div,Nat.sub_zero,qg st (2+h*size) _ c,List.take_take,Sf (by omega)];rfl
theorem uj{st:List UInt8}{size h len:Nat}(c:32*(2+h*size+(len+31) / 32)<=st.length):
  len<=((if len=0 then []else Go.Jn.cW 0 len).flatMap (λk=>sec st (2+h*size+k))).length:=by
 by_cases a:len=0
 ·omega
 ·rw[if_neg a];unfold cW;rw[nW,Nat.zero_div,Nat.sub_zero,qg st (2+h*size) _ c,jQ,zS];omega
end Go.Jn
namespace Go.Proofs.YtkmbmfengcdmoaaGreatDoor
open Go.RowKit Go.ay Go.Jn Go.Dk Go.Mp Go.Rf Go.Shelf
attribute [local go_sem] Oper.semAt_some

theorem lH.rj{w0 w:World}{B b:Nat}{l:List UInt8}(h:lH w0 B b l w)(s:ByteArray)(k:l.length+s.size<=140737488355328):
  Calls Tryz.prog 57 #[.pointer (some ⟨b,0,none⟩), .string s] w λe w'=>e= .returned (.tuple #[.int .i64 s.size, .nilIface])/\lH w0 B b (l++s.data.toList) w'/\Lib.OthersKept 5 (some b) w w'/\Below B w w':=by
 obtain⟨g,a,c⟩:=h;refine(Any.Builder_WriteString_k xV Af B b (Lib.byteCells l) s w g (by simpa[Lib.byteCells]using k) (fO c a.size)).mono ?_;rintro e w' ⟨rfl,i,d,j⟩;refine⟨rfl,⟨.inr ?_,a.trans d,c⟩,j,d⟩;have f:Lib.byteCells (l++s.data.toList)=Lib.byteCells l++Lib.strCells s:=by simp[Lib.byteCells,Lib.strCells]
 rw[f];exact i
theorem lH.JM{w0 w:World}{B b:Nat}{l:List UInt8}(h:lH w0 B b l w):
  Calls Tryz.prog 60 #[.pointer (some ⟨b,0,none⟩)] w λe w'=>e= .returned (.string ⟨l.toArray⟩)/\lH w0 B b l w'/\Lib.OthersKept 5 (some b) w w'/\Below B w w':=by
 obtain⟨f,a,c⟩:=h;refine(Tryz.Builder_String_any_k B b l w f (fO c a.size)).mono ?_;rintro e w' ⟨rfl,g,d,i⟩;exact⟨rfl,⟨g,a.trans d,c⟩,i,d⟩
theorem Lc{β:Type}(w0:World)(B b B':Nat)(f:β->List UInt8)(F:B<=B'):OwnFrom B' (λs W=>lH w0 B b (f s) W):=by
 intro s X Y row h x A;obtain⟨E,q,u⟩:=h;have a:∀k c t d,X.heap[k]? =some (Obj.cells c t d)->Y.heap[k]? =X.heap[k]? :=λk c t d y=>x.block k (iS.1 y).1 (λe=>by
  obtain⟨_,o,z,G⟩:=A k e.symm;rw[y]at z;cases z;cases G)
 have m:∀p,Lib.BuilderAtF 119 5 B b p (Lib.byteCells (f s)) X->Lib.BuilderAtF 119 5 B b p (Lib.byteCells (f s)) Y:=by
  rintro p ⟨K,v,D,⟨L,l⟩,M⟩;refine⟨K,v,(a b _ _ _ D).trans D,⟨L, ?_⟩,M⟩;rcases l with l|⟨g,i,j,d,H,I,C,J⟩
  ·exact .inl l
  ·exact .inr ⟨g,i,j,d,H,I,(a g _ _ _ C).trans C,J⟩
 exact⟨E.imp (m _) (m _),q.grown x (fO u q.size) (λr e=>fO F (A r e).1),u⟩
theorem ir{w w':World}{e:TypeId}{b k:Nat}{cs:List Value}{T:TypeId}(h:Lib.OthersKept e (some b) w w')(g:ay w k cs T)(a:T≠e)(d:k≠b):ay w' k cs T:=
 h k _ g (by simpa using d) (λc i f=>by cases f;exact a rfl)
def CI(w:World)(st:List UInt8)(base jb len half q:Nat)(pre:List Nat)(W:World):Prop:=
 lH w w.heap.size (w.heap.size+1) (pre.flatMap (λk=>sec st (base+k))) W/\ay W w.heap.size [.pointer (some ⟨jb,0,none⟩)] 101/\
  ay W (q+3) [.int .i64 (len:Int)] 3/\ay W (q+2) [.int .i64 ((0:Nat):Int)] 3/\ay W (q+1) [.int .i64 (half:Int)] 3/\ay W q [.pointer (some ⟨jb,0,none⟩)] 101
def FI(q jb:Nat)(k:Nat):Prop:=k≠q+3/\k≠q+2/\k≠q+1/\k≠q/\k≠jb
def CP(w:World)(l:List UInt8)(jb len D:Nat)(x:World):Prop:=
 lH w w.heap.size (w.heap.size+1) l x/\ay x w.heap.size [.pointer (some ⟨jb,0,none⟩)] 101/\x.heap[D]? =some (.deferred (some []))/\x.cell? ⟨w.heap.size,0,none⟩=some (.pointer (some ⟨jb,0,none⟩))/\x.cell? ⟨jb,2,none⟩=some (.int .i64 (len:Int))
theorem lL{β:Type}(k:Nat)(cs:List Value)(t:TypeId):Own (fun(_:β) W=>ay W k cs t):=by
 intro s X Y row h d f;refine(d.block k h.lt (λe=> ?_)).trans h;obtain⟨o,a,c⟩:=f k e.symm;rw[show X.heap[k]? =_ from h]at a;cases a;cases c
theorem NU(w:World)(st:List UInt8)(base jb len half q B:Nat)(a:w.heap.size<=B):OwnFrom B (CI w st base jb len half q):=
 OwnFrom.and (Lc _ _ _ _ _ a) (OwnFrom.and (Own.from (lL _ _ _) _) (OwnFrom.and (Own.from (lL _ _ _) _) (OwnFrom.and (Own.from (lL _ _ _) _) (OwnFrom.and (Own.from (lL _ _ _) _) (Own.from (lL _ _ _) _)))))
set_option maxHeartbeats 400000 in
theorem yl{w:World}{jb b bs bm n a:Nat}{pv rv:Value}{br:Bool}{v:Nat×Nat×Nat}{d:DD}(hd:aI w b bs bm pv d n)(gc:d.on=true)(hn:4<=n)(U:ay w jb (dW v a ((n-2) / 2) b rv br) 189)(h1:v.2.1<=1)(h2:v.2.2<=32*((n-2) / 2)):
  Calls Tryz.prog 106 #[.pointer (some ⟨jb,0,none⟩)] w λe w'=>e= .returned (.string (tx (half (nc d) ((n-2) / 2) v.2.1 v.2.2)))/\Below w.heap.size w w':=by
 have li:=hd.ok.n2;obtain⟨num,h,len⟩:=v;dsimp only at h1 h2⊢;obtain⟨size,es⟩:=x_ ((n-2) / 2)
 rw[<-es]at U h2⊢;have jp:h*size<=size:=by
  have:h=0\/h=1:=by omega
  rcases this with rfl|rfl<;>simp
 have hL:32*(2+h*size+(len+31) / 32)<=(nc d).length:=by rw[mD hd.ok];omega
 have H:=h_ (Fa (nc d) size h len hL);have Q:=h_ (uj hL);have I:Hid (∀k,k∈cW 0 len->2+h*size+k<n/\(sec (nc d) (2+h*size+k)).length=32):=λk hk=>by
  unfold cW at hk;rw[List.mem_range'_1]at hk;exact⟨by omega,ij (by rw[mD hd.ok];omega)⟩
 have HD:=h_ (fun(w':World) (hb:Below w.heap.size w w') (s:Nat) (hs:s<n)=>sQ (jb:=jb) (w:=w') (by exact(U.below hb U.lt).ag 5 _ rfl) (hd.below hb) gc s hs);have G:=h_ U;have i9:len<=64000:=by omega
 have i':=h_ (Below.refl w.heap.size w);obtain⟨i8,A⟩:=x_ (tx (half (nc d) size h len))
 rw[<-A];have ER:=h_ A;clear hd gc U A hL;obtain⟨st,dl⟩:=x_ (nc d)
 rw[<-dl]at H Q I HD ER;clear dl;have ld:∀(fn:Fn) (first cap:Array Value) (w:World),(Instr.makeFunc fn first cap).run Tryz.prog w= .ok (.func fn first cap) w:=λ_ _ _ _=>rfl
 refine xX 4 Tryz.func106 rfl ?_;simp only[Tryz.ntmps106,tY,kq,qA,Nat.reduceAdd,Nat.reduceSub,M0,MZ,M7,M6,xK,xC];refine gI (ff ?_);go_wp2_with fail;refine gI (ff ?_);go_wp2_with fail;refine gI (gI (ff ?_));go_wp2_with fail;obtain⟨V,eV⟩:=x_ ((w.alloc (.cells #[.pointer (some ⟨jb,0,none⟩)] 101)).alloc (.cells #[.pointer none, .slice none 0 0] 119))
 have E:Hid (Below w.heap.size w V):=by rw[eV];exact((Below.refl _ w).alloc (aL _) _).alloc (by simp) _
 have Z:Hid (ay V w.heap.size [.pointer (some ⟨jb,0,none⟩)] 101):=by rw[eV];exact(ay.new w _ _).alloc _
 have kB:Hid (lH w w.heap.size (w.heap.size+1) [] V):=by
  rw[eV]
  have:=lH.new w (w.alloc (.cells #[.pointer (some ⟨jb,0,none⟩)] 101)) w.heap.size ((Below.refl _ w).alloc (aL _) _) (aL _);rw[show(w.alloc (.cells #[.pointer (some ⟨jb,0,none⟩)] 101)).heap.size=w.heap.size+1 by simp]at this;exact this
 have VS:Hid (V.heap.size=w.heap.size+2):=by rw[eV];show _=_;simp
 rw[<-eV];clear eV;have c0:=Z.out.ag 0 _ rfl;have X:=G.out.below E.out G.out.lt;have c1:=X.ag 1 _ rfl;have S:=X.ag 2 _ rfl;dsimp only at c1 S;refine Free.ai 11 [] (λy=>Below V.heap.size V y/\y.cell? ⟨w.heap.size,0,none⟩=some (.pointer (some ⟨jb,0,none⟩))/\y.cell? ⟨jb,1,none⟩=some (.int .i64 (h:Int))/\y.cell? ⟨jb,2,none⟩=some (.int .i64 (len:Int))) (by kernel_rfl) (by kernel_rfl) (Free.aW (λj mk r T=>by cases T)) ⟨(Below.refl _ _).drew,c0,c1,S⟩
  (λ_ _ h g=>⟨h.1.trans (Below.mono g h.1.size),aO h.2.1 g,aO h.2.2.1 g,aO h.2.2.2 g⟩) ?_
 simp only[eJ,dT];clear c0 c1 S X;iterate 11 (apply Free.ae (Free.wq rfl) rfl;(intro w' N hA;obtain⟨qB,q1,q2,q3⟩:=N;clear hA qB;go_light;go_simp<;>rfl);(try simp only[Pt]))
 apply Free.ax;intro V1 B _ _;simp only[fm,fo];have z:=h_ (E.out.trans (B.1.mono E.out.size));have bi:=h_ (kB.out.grow B.1);have ci:=h_ (Z.out.below B.1 Z.out.lt);have co:Hid (w.heap.size+2<=V1.heap.size):=by have:=B.1.size;rw[VS.out]at this;exact this
 clear B kB Z E VS;go_wp2_with fail;refine(ml jb h 0 len).mono ?_;rintro e w' ⟨rfl,M⟩;obtain⟨q,eq⟩:=x_ V1.heap.size
 rw[<-eq];rw[<-eq]at co;have g7:Hid (Below w.heap.size w w'):=by rw[M];exact(((z.out.alloc z.out.size _).alloc (by have:=z.out.size;simp;omega) _).alloc (by have:=z.out.size;simp;omega) _).alloc (by have:=z.out.size;simp;omega) _
 have m:Hid (CI w st (2+h*size) jb len h q [] w'):=by
  rw[M,eq];refine⟨?_,(((ci.out.alloc _).alloc _).alloc _).alloc _, ?_, ?_, ?_, ?_⟩
  ·exact(((bi.out.grow ((Below.refl _ _).alloc (aL _) _)).grow ((Below.refl _ _).alloc (aL _) _)).grow ((Below.refl _ _).alloc (aL _) _)).grow ((Below.refl _ _).alloc (aL _) _)
  ·exact eY (by simp)
  ·exact bZ (eY (by simp))
  ·exact bZ (bZ (eY (by simp)))
  ·exact bZ (bZ (bZ (eY rfl)))
 have lm:w'.heap.size=q+4:=by rw[M,eq];simp
 have kw:jb<w.heap.size:=G.out.lt;have hq:w.heap.size+2<=q:=co.out;have R:Hid (qF w' (q+3) (q+2) (q+1) q jb len 0 h size):=
  ⟨m.out.2.2.1.ag 0 _ rfl,m.out.2.2.2.1.ag 0 _ rfl,m.out.2.2.2.2.1.ag 0 _ rfl,m.out.2.2.2.2.2.ag 0 _ rfl,(G.out.below g7.out G.out.lt).ag 4 _ rfl⟩
 obtain⟨base,eb⟩:=x_ (2+h*size)
 have EB:=h_ eb;rw[<-eb]at m H Q I;clear M eb bi ci z eq;go_wp2_with fail;refine tT ?_;refine vO (α:=Nat) (n:=4) (encs:=Ij base) (F:=FI q jb) (gf:=224) rfl (enters_of Tryz.func224 (by kernel_rfl) rfl) (λk hk=>⟨by omega,by omega,by omega,by omega,by omega⟩)
  (EB.out▸rh 3 (q+3) (q+2) (q+1) q jb (by decide) (FI q jb) h 0 len size (λh=>h.1 rfl) (λh=>h.2.1 rfl) (λh=>h.2.2.1 rfl) (λh=>h.2.2.2.1 rfl) (λh=>h.2.2.2.2 rfl) h1 (by omega) (by omega) (by omega) w' R.out) (λ_=>rfl)
  (CI w st base jb len h q) (λ_ _=>False) (NU w st base jb len h q _ (by omega)) m.out ?a1 ?assign ?body ?done ?panic
 case panic=>intro D ch W _ T _;exact T.elim
 case assign=>
  intro l x W K hK
  gi_wp2
  exact hK
 case body=>
  clear m R;go_light;rintro l C k W i L;have P:=h_ i;have hk:k∈cW 0 len:=L.subset (by simp);obtain⟨ip,ge⟩:=I.out k hk;have io:(C.flatMap (λk=>sec st (base+k))).length<=100000000:=by
   have h1:∀x∈C,(sec st (base+x)).length=32:=λx hx=>(I.out x (L.subset (by simp[hx]))).2
   have h2:C.length<=(cW 0 len).length:=by have:=L.length_le;simp at this;omega
   have h3:(cW 0 len).length<=4000:=by unfold cW;rw[Qa];omega
   have h4:∀p:List Nat,(∀x∈p,(sec st (base+x)).length=32)->(p.flatMap (λk=>sec st (base+k))).length=32*p.length:=λp=>by
    induction p with
    |nil=>intro _;rfl
    |cons y p ih=>intro h;rw[BZ,fu,h y (by simp),ih (λx hx=>h x (by simp[hx])),kq];omega
   rw[h4 C h1];omega
  have c0:=i.2.1.ag 0 _ rfl;obtain⟨s,Y⟩:=x_ (base+k:Nat)
  have es:(s:Int)=(base:Int)+(k:Int):=by omega
  have RD:=h_ (HD.out W i.1.bl s (by omega));have WS:=h_ (i.1.rj (tx (sec st s)) (by rw[ft,Y,ge];omega));rw[gH]at WS;obtain⟨x,ex⟩:=x_ (tx (sec st s))
  rw[<-ex]at RD WS;rw[<-es];have g8:=h_ Y;clear L hk ip ge io i ex es Y
  gi_wp2
  refine⟨trivial,Free.dz ?_⟩;refine RD.out.mono ?_;rintro e w2 ⟨rfl,rfl⟩
  gi_wp2
  refine⟨trivial,Free.dz ?_⟩;refine WS.out.mono ?_;rintro e w2 ⟨rfl,d7,u,t⟩;have gt:Hid (KeepsFrom w'.heap.size W w2/\aJ (FI q jb) W w2/\CI w st base jb len h q (C++ [k]) w2):=by
   obtain⟨k1,k2,k3,k4,k5,k6⟩:=P.out;have n1:=ir u k2 (by decide) (by omega);have n2:=ir u k3 (by decide) (by omega);have n3:=ir u k4 (by decide) (by omega);have n4:=ir u k5 (by decide) (by omega);have n5:=ir u k6 (by decide) (by omega);refine⟨⟨?_,λj o U ho hc=>u j o ho (by simp;omega) (λc fz e=>by rw[e]at hc;cases hc)⟩,⟨t.os,t.tape,t.output, ?_,λj U hF=> ?_⟩, ?_,n1,n2,n3,n4,n5⟩
   ·exact t.size
   ·exact t.size
   ·rcases Classical.em (j<w.heap.size)with d9|d9
    ·exact t.block j d9
    ·have:j=q+3\/j=q+2\/j=q+1\/j=q:=by unfold FI at hF;omega
     rcases this with rfl|rfl|rfl|rfl
     ·exact n2.trans k3.symm
     ·exact n3.trans k4.symm
     ·exact n4.trans k5.symm
     ·exact n5.trans k6.symm
   ·rw[DU,BZ,Se,DS, <-g8.out];exact d7
  clear d7 u t RD WS P
  gi_wp2
  exact gt.out
 case done=>
  clear m R;go_light;rintro D xs W hD rfl i f8;have P:=h_ i;have c0:=i.2.1.ag 0 _ rfl;refine gI (n:=4) (ff (n:=4) ?_);dsimp only;have an:Hid (len<=(List.flatMap (λk=>sec st (base+k)) (if len=0 then []else cW 0 len)).length):=Q.out;obtain⟨l,el⟩:=x_ (List.flatMap (λk=>sec st (base+k)) (if len=0 then []else cW 0 len))
  have N:=i.1;rw[<-el]at N an H;have Z:=i.2.1;have S:=(G.out.below N.bl G.out.lt).ag 2 _ rfl;dsimp only at S;have E2:Hid (∀y,lH w w.heap.size (w.heap.size+1) l y->y.cell? ⟨jb,2,none⟩=some (.int .i64 (len:Int))):=λy hy=>(G.out.below hy.bl G.out.lt).ag 2 _ rfl
  letI:Fre2.Rel:=⟨λx y=>CP w l jb len D x->CP w l jb len D y,λ_ h=>h,λ_ _ _ h k x=>k (h x)⟩
  refine Fre2.ai 6 [(0, .det (.string ⟨l.toArray⟩))] (CP w l jb len D) (by kernel_rfl) (by kernel_rfl) ?_ ⟨N.grow (gj W 1),Z,f8,c0,S⟩
   (λ_ _ h g=>g h) ?_
  ·exact Fre2.aW (λj mk r T=>by simp only[Free.find]at T;repeat' (first|cases T|split at T))
  simp only[eJ,dT];clear c0 S N Z f8 i;apply Fre2.aC (Free.wq rfl) rfl
  ·intro y J _;refine Free.au (f:=60) (args:= #[.pointer (some ⟨w.heap.size+1,0,none⟩)]) (by clear J;go_simp<;>rfl) ?_;refine(J.1.JM).mono ?_;rintro e w3 ⟨rfl,d8,f9,_⟩;have kk:=ir f9 J.2.1 (by decide) (by omega);exact⟨_,rfl,λ_=>⟨d8,kk,f9 D _ J.2.2.1 (by simp;omega) (λc fz e=>by cases e),kk.ag 0 _ rfl,E2.out _ d8⟩,rfl⟩
  simp only[Pt];iterate 5 (apply Fre2.ae (Free.wq rfl) rfl;(intro w' N hA;obtain⟨qB,qJ,qD,q0,q2⟩:=N;clear hA qB qJ qD;go_light;go_simp<;>rfl);(try simp only[Pt]))
  apply Fre2.ax;intro w4 d6 _ _;simp only[fm,fo];have O:=h_ d6;have HX:Hid ((⟨l.toArray⟩:ByteArray).extract 0 len=i8):=by show _=_;rw[ER.out, <-H.out];apply Sl;simp[tx]
  have ii:len<=(⟨l.toArray⟩:ByteArray).size:=by show len<=l.toArray.size;simpa using an.out
  obtain⟨x,ex⟩:=x_ (⟨l.toArray⟩:ByteArray)
  rw[<-ex]at HX ii⊢;clear d6 ex;go_wp2_with fail;rw[HX.out];refine ff (n:=4) ?_;go_wp2_with fail;refine⟨by simp, .inl ⟨D,_,rfl,run_takeDeferred O.out.2.2.1, ?_⟩⟩;refine⟨_,results_tmp rfl _ _ _,rfl, ?_⟩;exact O.out.1.bl.grown (grownBy_putObj' _ D _) (by have:=O.out.1.bl.size;omega) (λk e=>by cases e;omega)
end Go.Proofs.YtkmbmfengcdmoaaGreatDoor
namespace Go.Proofs.YtkmbmfengcdmoaaGreatDoor
open Go.RowKit Go.ay Go.Jn Go.Rf

theorem Ah(p q:Addr)(w:World):
  CallsD Tryz.prog 165 #[.pointer (some p), .pointer (some q)] .returning w λe d w'=>e= .returned (.tuple #[])/\d= .returning/\w'=w:=by
 refine callsD_of_wpS Tryz.func165 rfl λa f c=> ?_
 apply wpS_seq;apply wpS_region;simp[wpOpsS,go_sem,recoverD,c,Tryz.ntmps165,Exit.thenS];apply wpS_seq;apply wpS_region;simp[wpOpsS,go_sem,Exit.thenS];refine wpS_cond (t:=false) (by simp[Act.eval,Array.replicate]) ?_;simp only[GA,B6];refine wpS_of_wp (wp_skip ?_);cases a
 simp_all [bodyPostS,results,Tryz.results165]
theorem Ed(a b:Nat)(c x:Int)(jb:Nat)(w:World)(j:w.cell? ⟨a,0,none⟩=some (.pointer (some ⟨jb,0,none⟩)))(k:w.cell? ⟨jb,7,none⟩=some (.bool false))(l:w.frozen? ⟨jb,7,none⟩=false)
  (f:w.cell? ⟨b,0,none⟩=some (.int .i64 x)) (g:w.frozen? ⟨b,0,none⟩=false) (i:b≠jb):
  CallsD Tryz.prog 165 #[.pointer (some ⟨a,0,none⟩), .pointer (some ⟨b,0,none⟩)] (.panicking (bad c)) w λe m w'=>
   e= .returned (.tuple #[])/\m= .panicking [{v:= .iface 265 (.int .i64 c),recovered:=true}]/\w'=((w.setCell ⟨jb,7,none⟩ (.bool true)).setCell ⟨b,0,none⟩ (.int .i64 21)).setCell ⟨b,0,none⟩ (.int .i64 c):=by
 refine callsD_of_wpS Tryz.func165 rfl λp o h=> ?_
 apply wpS_seq;apply wpS_region;unfold bad at h;have d:∀w,(Instr.typeAssert (.iface 265 (.int .i64 c)) 20 265 true).run Tryz.prog w= .ok (.tuple #[.int .i64 c, .bool true]) w:=λw=>by kernel_rfl
 simp[wpOpsS,go_sem,recoverD,h,Tryz.ntmps165,Exit.thenS];apply wpS_seq;apply wpS_region;simp[wpOpsS,go_sem,Exit.thenS];refine wpS_cond (t:=true) (by simp[Act.eval,Array.replicate]) ?_;simp only[uf];apply wpS_seq;apply wpS_region;simp[wpOpsS,go_sem,Exit.thenS,j,k,l];apply wpS_seq;apply wpS_region;simp[wpOpsS,go_sem,Exit.thenS,f,g];apply wpS_seq;apply wpS_region;simp[wpOpsS,go_sem,Exit.thenS,d];apply wpS_seq;apply wpS_region;simp[wpOpsS,go_sem,Exit.thenS];refine wpS_cond (t:=true) (by simp[Act.eval,Array.replicate]) ?_;simp only[uf];apply wpS_region;simp[wpOpsS,go_sem,f,g,bodyPostS,results,Tryz.results165]
theorem DP{w:World}{jb g:Nat}{cb:Array Value}(R:Ending->World->Prop)(y:∀args w,(callFunc g args).run Tryz.prog w= .ok (.enter g args) w)(u:jb<w.heap.size)
  (i:Calls Tryz.prog g cb ((w.alloc (.cells #[.pointer (some ⟨jb,0,none⟩)] 101)).alloc (.cells #[.int .i64 0] 52)) λe w'=>ay w' w.heap.size [.pointer (some ⟨jb,0,none⟩)] 101/\ay w' (w.heap.size+1) [.int .i64 0] 52/\
   ((e= .returned (.tuple #[])/\R (.returned (.int .i64 0)) (w'.setCell ⟨w.heap.size+1,0,none⟩ (.int .i64 0)))\/
    (∃c,e= .panicked (bad c)/\w'.cell? ⟨jb,7,none⟩=some (.bool false)/\w'.frozen? ⟨jb,7,none⟩=false/\R (.returned (.int .i64 c)) (((w'.setCell ⟨jb,7,none⟩ (.bool true)).setCell ⟨w.heap.size+1,0,none⟩ (.int .i64 21)).setCell ⟨w.heap.size+1,0,none⟩ (.int .i64 c))))):
  Calls Tryz.prog 102 #[.pointer (some ⟨jb,0,none⟩), .func (.func g) #[] cb] w R:=by
 have v:∀(fn:Fn) (first cap:Array Value) (w:World),(Instr.makeFunc fn first cap).run Tryz.prog w= .ok (.func fn first cap) w:=λ_ _ _ _=>rfl
 have k:=h_ i;clear i
 go_enter_defers Tryz.func102,Tryz.ntmps102
 go_wp2_with fail;refine k.out.mono ?_;rintro e w' ⟨p,j,⟨rfl,h⟩|⟨c,rfl,t,r,h⟩⟩
 ·have l:=j.ag 0 _ rfl;have o:=j.frozen 0;have HR:=h_ h;clear h p;go_wp2_with fail;refine leaves_cons (f:=165) (args:= #[.pointer (some ⟨w.heap.size,0,none⟩), .pointer (some ⟨w.heap.size+1,0,none⟩)]) (by simp) (by simp[go_sem]) ?_;refine(Ah _ _ _).mono ?_;rintro e x m ⟨rfl,rfl,rfl⟩;have hz:(w'.setCell ⟨w.heap.size+1,0,none⟩ (.int .i64 0)).cell? ⟨w.heap.size+1,0,none⟩=some (.int .i64 0):=World.cell?_setCell_same' _ _ _ (by rw[l];rfl);have d:=HR.out;generalize (w'.setCell ⟨w.heap.size+1,0,none⟩ (.int .i64 0))=wz at hz d⊢;simp[Leaves,settle,results,Tryz.results102,go_sem,hz];exact d
 ·have q:=p.ag 0 _ rfl;have l:=j.ag 0 _ rfl;have o:=j.frozen 0;have HR:=h_ h;clear h;go_wp2_with fail;refine leaves_cons (f:=165) (args:= #[.pointer (some ⟨w.heap.size,0,none⟩), .pointer (some ⟨w.heap.size+1,0,none⟩)]) (by simp[bad]) (by simp[go_sem]) ?_;refine(Ed w.heap.size (w.heap.size+1) c 0 jb w' q t r l o (by omega)).mono ?_;rintro e x m ⟨rfl,rfl,rfl⟩;have hz:(((w'.setCell ⟨jb,7,none⟩ (.bool true)).setCell ⟨w.heap.size+1,0,none⟩ (.int .i64 21)).setCell ⟨w.heap.size+1,0,none⟩ (.int .i64 c)).cell? ⟨w.heap.size+1,0,none⟩=some (.int .i64 c):=
   ((((j.cL (a:=⟨jb,7,none⟩) (by show jb≠w.heap.size+1;omega) (.bool true)).set 0 (.int .i64 21)).set 0 (.int .i64 c)).ag 0 _ rfl)
  have d:=HR.out;generalize (((w'.setCell ⟨jb,7,none⟩ (.bool true)).setCell ⟨w.heap.size+1,0,none⟩ (.int .i64 21)).setCell ⟨w.heap.size+1,0,none⟩ (.int .i64 c))=wz at hz d⊢;simp[Leaves,settle,results,Tryz.results102,go_sem,hz];exact d
end Go.Proofs.YtkmbmfengcdmoaaGreatDoor
