/- Package journal: try. No condition. -/
import Derived.Test.YtkmbmfengcdmoaaGreatDoorZAV
import Derived.Test.YtkmbmfengcdmoaaGreatDoorZAU
import Derived.Deep.MidRow
import Derived.Test.YtkmbmfengcdmoaaGreatDoorZAE
import Derived.Test.YtkmbmfengcdmoaaGreatDoorZAA
import Derived.Defers
import Derived.Recover
set_option linter.all false
set_option maxRecDepth 100000
namespace Go.Jn
theorem uQ:∀(s:List UInt8) (a m:Nat),jm s a=some m->m<(a+1)*10 ^ s.length
 | [],a,m,h=>by simp only[jm]at h;cases h;simp
 |b::s,a,m,h=>by
  unfold jm at h;split at h
  ·rename_i hb
   have:=uQ s _ m h;rw[kq,GL];have h9:10*a+(b.toNat-48)+1<=(a+1)*10:=by omega
   calc m<(10*a+(b.toNat-48)+1)*10 ^ s.length:=this
    _<=((a+1)*10)*10 ^ s.length:=Nat.mul_le_mul_right _ h9
    _=(a+1)*(10 ^ s.length*10):=by rw[P6,B8 10]
  ·cases h
theorem vw{s:List UInt8}{room:Nat}{v:Nat×Nat×Nat}(h:bN s room=some v):v.1<=999999999:=by
 unfold bN at h;split at h
 ·rename_i hl;split at h
  ·cases h
  ·rename_i a ha;split at h
   ·cases h
   ·split at h
    ·split at h
     ·cases h
     ·split at h
      ·cases h
       have:=uQ _ 0 a ha;rw[jQ]at this;have e:min 9 s.length=9:=by omega
       rw[e]at this;show a<=999999999;omega
      ·cases h
    ·cases h
 ·cases h
theorem JI{a b:List UInt8}{room:Nat}{v:Nat×Nat×Nat}{at_:Nat}(h:dp a b room=some (v,at_)):v.1<=999999999:=by
 rcases kO h with h|h|h
 ·exact vw h.2
 ·exact vw h.2
 ·rw[h.2.1];exact gu _
end Go.Jn
namespace Go.Proofs.YtkmbmfengcdmoaaGreatDoor
open Go.RowKit Go.ay Go.Jn Go.Dk Go.Mp

def dW(v:Nat×Nat×Nat)(a size b:Nat)(rv:Value)(br:Bool):List Value:=
 [.int .i64 (v.1:Int), .int .i64 (v.2.1:Int), .int .i64 (v.2.2:Int), .int .i64 (a:Int), .int .i64 (size:Int), .pointer (some ⟨b,0,none⟩),rv, .bool br]
def fY(w:World)(base:Nat)(rv:Value)(l:List (List UInt8)):Prop:=w.ownsRow base 9 1 rv l.length ((l.map tx).flatMap lR)
structure Cc (w:World) (jb b bs bm:Nat) (pv rv:Value) (n:Nat) (s:JS):Prop where
 n4:4<=n
 ly:aI w b bs bm pv s.d n
 bg:ay w jb (dW s.v s.a ((n-2) / 2) b rv s.broken) 189
 row:fY w 0 rv s.bW
 num:s.v.1<=999999999
 hf:s.v.2.1<=1
 len:s.v.2.2<=32*((n-2) / 2)
 at_:s.a<=1
def pD(jb b bs bm:Nat)(pv rv:Value)(k:Nat):Prop:=k=jb\/rv.ownBlock=some k\/Fp b bs bm pv k
section
variable {w w':World} {jb b bs bm n:Nat} {pv rv:Value} {s:JS}
theorem fY.bD{base:Nat}{l:List (List UInt8)}(h:fY w base rv l)(hk:∀k,rv.ownBlock=some k->w'.heap[k]? =w.heap[k]?):fY w' base rv l:=bC h hk
theorem Cc.bD{F:Nat->Prop}(h:Cc w jb b bs bm pv rv n s)(hk:aJ F w w')(hF:∀k,pD jb b bs bm pv rv k-> ¬F k):Cc w' jb b bs bm pv rv n s:=
 ⟨h.n4,h.ly.bD hk (λk hh=>hF k (.inr (.inr hh))),h.bg.bG (hk.block jb h.bg.lt (hF jb (.inl rfl))),
  h.row.bD (λk e=>hk.block k (World.ownsRow.lt h.row k e).2 (hF k (.inr (.inl e)))),h.num,h.hf,h.len,h.at_⟩
theorem Cc.lt(h:Cc w jb b bs bm pv rv n s){k:Nat}(hk:pD jb b bs bm pv rv k):k<w.heap.size:=by
 rcases hk with rfl|e|e
 ·exact h.bg.lt
 ·exact(World.ownsRow.lt h.row k e).2
 ·exact h.ly.lt e
theorem Cc.below(h:Cc w jb b bs bm pv rv n s)(hb:Below w.heap.size w w'):Cc w' jb b bs bm pv rv n s:=h.bD (F:=λ_=>False) (aJ.aY hb) (λ_ _ f=>f)
theorem jG{cs:List Value}{T:TypeId}{d:DD}{x:Nat}(h:aI w b bs bm pv d n)(hx:ay w x cs T)(h1:T≠135)(h2:T≠5)(h3:T≠203): ¬Fp b bs bm pv x:=by
 rintro(rfl|rfl|rfl|e)
 ·have:=h.bg.symm.trans hx;simp at this;exact h1 this.2.symm
 ·have:=h.st.symm.trans hx;simp at this;exact h2 this.2.symm
 ·obtain⟨es,c,hm,_⟩:=h.map
  have:=hx.symm.trans hm;simp at this
 ·exact iM h.row hx (nq h3) e
theorem qp{d:DD}{base m:Nat}{e:TypeId}{size:Nat}{v:Value}{xs:List Value}(h:aI w b bs bm pv d n)(hr:w.ownsRow base e size v m xs)(h1:e≠135)(h2:e≠5)(h3:e≠203){k:Nat}(hk:v.ownBlock=some k): ¬Fp b bs bm pv k:=by
 rintro(rfl|rfl|rfl|e')
 ·exact iM hr h.bg h1 hk
 ·exact iM hr h.st h2 hk
 ·exact nJ hr h.map hk
 ·rcases hr.2 with⟨rfl,_⟩|⟨g,cap,cur,rfl,_,hg,_⟩
  ·simp[Value.ownBlock]at hk
  ·have hgk:g=k:=by simpa[Value.ownBlock]using hk
   subst hgk;rcases h.row.2 with⟨hz,_⟩|⟨g',cap',cur',hz,_,hg',_⟩
   ·rw[hz]at e';simp[Value.ownBlock]at e'
   ·rw[hz]at e'
    have:g'=g:=by simpa[Value.ownBlock]using e'
    subst this;rw[hg]at hg';simp at hg';exact h3 hg'.2
end
theorem Cp{n:Nat}{d:DD}(h:d.Ok n)(hon:d.on=true){s:Nat}(hs:s<n):(DD.read n d (s:Int)).2=0/\(⟨(DD.read n d (s:Int)).1.toArray⟩:ByteArray)=tx (sec (nc d) s):=by rw[tD h hon hs];exact⟨rfl,rfl⟩
theorem sQ{w:World}{jb b bs bm n:Nat}{pv:Value}{d:DD}(hj:w.cell? ⟨jb,5,none⟩=some (.pointer (some ⟨b,0,none⟩)))(h:aI w b bs bm pv d n)(hon:d.on=true)(s:Nat)(hs:s<n):
  Calls Tryz.prog 166 #[.pointer (some ⟨jb,0,none⟩), .int .i64 (s:Int)] w λe w'=>e= .returned (.string (tx (sec (nc d) s)))/\w=w':=by
 obtain⟨h1,h2⟩:=Cp h.ok hon hs
 have:=IW hj h (s:Int) h1;rw[h2]at this;exact this
theorem RJ{w:World}{b:Nat}{cs:List Value}{T:TypeId}(h:ay w b cs T)(x y z:Value):ay (w.setCells b 0 [x,y,z]) b (((cs.set 0 x).set 1 y).set 2 z) T:=by have:=((h.set 0 x).set 1 y).set 2 z;exact this
theorem uZ{F:Nat->Prop}{a w:World}{b:Nat}(h:aJ F a w)(hF:b<a.heap.size->F b)(x y z:Value):aJ F a (w.setCells b 0 [x,y,z]):=
 ((h.setCell (p:=⟨b,0,none⟩) hF x).setCell (p:=⟨b,1,none⟩) hF y).setCell (p:=⟨b,2,none⟩) hF z
def SE(r:Option (Nat×Nat×Nat))(v:Nat×Nat×Nat)(k:Bool):Prop:=(k=true/\r=some v)\/(k=false/\r=none/\v=(0,0,0))
theorem y7{r:Option (Nat×Nat×Nat)}{w w':World}{e:Ending}(h:vW r w e w'):Below w.heap.size w w'/\∃(x y z:Nat) (k:Bool),e= .returned (.tuple #[nQ x y z, .bool k])/\SE r (x,y,z) k:=by
 obtain⟨h1,⟨h2,h3⟩|⟨v,h2,h3⟩⟩:=h
 ·exact⟨h1,0,0,0,false,h3, .inr ⟨rfl,h2,rfl⟩⟩
 ·exact⟨h1,v.1,v.2.1,v.2.2,true,h3, .inl ⟨rfl,h2⟩⟩
set_option maxHeartbeats 400000 in
theorem zb{w:World}{jb b bs bm n:Nat}{pv rv:Value}{d:DD}(hd:aI w b bs bm pv d n)(hon:d.on=true)(hn:4<=n)(hj:ay w jb (dW (0,0,0) 0 ((n-2) / 2) b rv false) 189):
  Calls Tryz.prog 104 #[.pointer (some ⟨jb,0,none⟩)] w λe w'=>aJ (λk=>k=jb) w w'/\
   ((dp (sec (nc d) 0) (sec (nc d) 1) (32*((n-2) / 2))=none/\e= .returned (.bool false))\/
    ∃v a,dp (sec (nc d) 0) (sec (nc d) 1) (32*((n-2) / 2))=some (v,a)/\e= .returned (.bool true)/\ay w' jb (dW v a ((n-2) / 2) b rv false) 189):=by
 have hn2:=hd.ok.n2;obtain⟨size,es⟩:=x_ ((n-2) / 2)
 rw[<-es]at hj⊢;have hsz:size<=2000:=by omega
 have l0:(sec (nc d) 0).length=32:=ij (by rw[mD hd.ok];omega);have l1:(sec (nc d) 1).length=32:=ij (by rw[mD hd.ok];omega);have HD:=h_ (fun(w':World) (hb:Below w.heap.size w w') (s:Nat) (hs:s<n)=>sQ (jb:=jb) (w:=w') (by exact(hj.below hb hj.lt).ag 5 _ rfl) (hd.below hb) hon s hs);have HRM:=h_ (fun(w':World) (hb:Below w.heap.size w w')=>zn (w:=w') (jb:=jb) size ((hj.below hb hj.lt).ag 4 _ rfl) (by omega));obtain⟨room,er⟩:=x_ (32*size)
 rw[<-er]at HRM⊢;have HP:=h_ (fun(w':World) (s:List UInt8) (hs:s.length=32)=>AU (tx s) room w' (by omega) (by rw[ft];omega));obtain⟨s0,e0⟩:=x_ (sec (nc d) 0)
 obtain⟨s1,e1⟩:=x_ (sec (nc d) 1)
 rw[<-e0]at l0⊢;rw[<-e1]at l1⊢;have R0:=h_ (fun(w':World) (hb:Below w.heap.size w w')=>HD.out w' hb 0 (by omega));have R1:=h_ (fun(w':World) (hb:Below w.heap.size w w')=>HD.out w' hb 1 (by omega));rw[<-e0]at R0;rw[<-e1]at R1;have P0:=h_ (λw'=>HP.out w' s0 l0);have P1:=h_ (λw'=>HP.out w' s1 l1);rw[gH]at P0 P1;obtain⟨R,eR⟩:∃R:Ending->World->Prop,R=λe w'=>aJ (λk=>k=jb) w w'/\
   ((dp s0 s1 room=none/\e= .returned (.bool false))\/∃v a,dp s0 s1 room=some (v,a)/\e= .returned (.bool true)/\ay w' jb (dW v a size b rv false) 189):=⟨_,rfl⟩
 rw[<-eR];have FN:Hid (dp s0 s1 room=none->∀w',aJ (λk=>k=jb) w w'->R (.returned (.bool false)) w'):=λh w' hk=>by rw[eR];exact⟨hk, .inl ⟨h,rfl⟩⟩
 have FS:Hid (∀v a,dp s0 s1 room=some (v,a)->∀w',aJ (λk=>k=jb) w w'->ay w' jb (dW v a size b rv false) 189->R (.returned (.bool true)) w'):=λv a h w' hk hb=>by rw[eR];exact⟨hk, .inr ⟨v,a,h,rfl,hb⟩⟩
 have HJ:=h_ hj
 /-have G2:Hid (∀a b c:Nat,(Tryz.prog.info? 187).map (·.size)=some (#[Value.int .i64 (a:Int), .int .i64 (b:Int), .int .i64 (c:Int)]:Array Value).size):=fun a b c=>by kernel_rfl
 have G1:Hid (∀a b c:Nat,(#[Value.int .i64 (a:Int), .int .i64 (b:Int), .int .i64 (c:Int)].all (·.oneCell'))=true):=fun a b c=>by simp[Value.oneCell']-/
 have HB0:=h_ (Below.refl w.heap.size w);clear eR hd hj HD HP hon e0 e1 er;go_enter Tryz.func104,Tryz.ntmps104;go_wp2_with fail;refine(R0.out _ HB0.out).mono ?_;rintro e w' ⟨rfl,rfl⟩;go_wp2_with fail;refine(R1.out _ HB0.out).mono ?_;rintro e w' ⟨rfl,rfl⟩;go_wp2_with fail;refine(HRM.out _ HB0.out).mono ?_;rintro e w' ⟨rfl,rfl⟩;go_wp2_with fail;refine(P0.out _).mono ?_;rintro e w1 hp1;obtain⟨hb1,x0,y0,z0,k0,rfl,hr0⟩:=y7 hp1;have HB1:=h_ hb1;have HR0:=h_ hr0;clear hb1 hp1 hr0;unfold nQ;go_wp2_with fail;refine(HRM.out _ (HB1.out.alloc HB1.out.size _)).mono ?_;rintro e w' ⟨rfl,rfl⟩;go_wp2_with fail;refine(P1.out _).mono ?_;rintro e w2 hp2;obtain⟨hb2,x1,y1,z1,k1,rfl,hr1⟩:=y7 hp2;have HB2:Hid (Below w.heap.size w w2):=(HB1.out.alloc HB1.out.size _).trans (hb2.mono (fO HB1.out.size (by simp)));have kA:Hid (ay w2 w1.heap.size [.int .i64 (x0:Int), .int .i64 (y0:Int), .int .i64 (z0:Int)] 187):=(ay.new w1 _ _).below hb2 (by simp);have HR1:=h_ hr1;clear hb2 hp2 hr1;have HB3:Hid (Below w.heap.size w (w2.alloc (.cells #[.int .i64 (x1:Int), .int .i64 (y1:Int), .int .i64 (z1:Int)] 187))):=HB2.out.alloc HB2.out.size _;obtain⟨W3,eW3⟩:=x_ (w2.alloc (.cells #[.int .i64 (x1:Int), .int .i64 (y1:Int), .int .i64 (z1:Int)] 187))
 have kB:Hid (ay W3 w2.heap.size [.int .i64 (x1:Int), .int .i64 (y1:Int), .int .i64 (z1:Int)] 187):=by rw[eW3];exact ay.new w2 _ _
 have kA3:Hid (ay W3 w1.heap.size [.int .i64 (x0:Int), .int .i64 (y0:Int), .int .i64 (z0:Int)] 187):=by rw[eW3];exact kA.out.alloc _
 have a0:=kA3.out.ag 0 _ rfl;have a1:=kA3.out.ag 1 _ rfl;have a2:=kA3.out.ag 2 _ rfl;have b0:=kB.out.ag 0 _ rfl;have b1:=kB.out.ag 1 _ rfl;have b2:=kB.out.ag 2 _ rfl;rw[<-eW3]at HB3;have HJ3:=h_ (HJ.out.below HB3.out HJ.out.lt);have F:Hid (∀v a,dp s0 s1 room=some (v,a)->R (.returned (.bool true)) ((W3.setCells jb 0 [.int .i64 (v.1:Int), .int .i64 (v.2.1:Int), .int .i64 (v.2.2:Int)]).setCell ⟨jb,3,none⟩ (.int .i64 (a:Int)))):=λv a h=>
  FS.out v a h _ ((uZ (F:=λk=>k=jb) (aJ.aY HB3.out) (λ_=>rfl) _ _ _).setCell (p:=⟨jb,3,none⟩) (λ_=>rfl) _) ((RJ HJ3.out _ _ _).set 3 _)
 have j0:=HJ3.out.ag 0 _ rfl;have j1:=HJ3.out.ag 1 _ rfl;have j2:=HJ3.out.ag 2 _ rfl;have j3:=HJ3.out.ag 3 _ rfl;have z0':=HJ3.out.frozen 0;have z1':=HJ3.out.frozen 1;have z2':=HJ3.out.frozen 2;have z3':=HJ3.out.frozen 3;unfold nQ;have EW:=h_ eW3;clear eW3;have F0:=h_ (fun(h:dp s0 s1 room=some ((x0,y0,z0),0))=>F.out (x0,y0,z0) 0 h);have F1:=h_ (fun(h:dp s0 s1 room=some ((x1,y1,z1),1))=>F.out (x1,y1,z1) 1 h);rcases HR0.out with⟨rfl,h0⟩|⟨rfl,h0,hz0⟩
 ·rcases HR1.out with⟨rfl,h1⟩|⟨rfl,h1,hz1⟩
  ·by_cases hc:x1<=x0
   ·have t1:decide ((x1:Int)<=(x0:Int))=true:=dt (by omega);have G:=h_ (F0.out (by unfold dp;rw[h0,h1];simp only;rw[if_pos hc]));clear h0 h1;go_wp2_with (rw[<-EW.out])
    exact G.out
   ·have t1:decide ((x1:Int)<=(x0:Int))=false:=dy (by omega);have G:=h_ (F1.out (by unfold dp;rw[h0,h1];simp only;rw[if_neg hc]));clear h0 h1;go_wp2_with (rw[<-EW.out])
    exact G.out
  ·have G:=h_ (F0.out (by unfold dp;rw[h0,h1]));clear h0 h1 hz1;go_wp2_with (rw[<-EW.out])
   exact G.out
 ·rcases HR1.out with⟨rfl,h1⟩|⟨rfl,h1,hz1⟩
  ·have G:=h_ (F1.out (by unfold dp;rw[h0,h1]));clear h0 h1 hz0;go_wp2_with (rw[<-EW.out])
   exact G.out
  ·have FZ:=h_ (fun(h:dp s0 s1 room=some ((0,0,0),0)) (w':World) (hb:Below w.heap.size w w')=>FS.out (0,0,0) 0 h w' (aJ.aY hb) (HJ.out.below hb HJ.out.lt));have FY:=h_ (fun(h:dp s0 s1 room=none) (w':World) (hb:Below w.heap.size w w')=>FN.out h w' (aJ.aY hb));have hp:dp s0 s1 room=if s0=List.replicate 32 0\/s1=List.replicate 32 0 then some ((0,0,0),0)else none:=by unfold dp;rw[h0,h1]
   rw[hp]at FZ FY;have BB:=h_ (λw=>sP w);obtain⟨bl,ebl⟩:=x_ (tx (List.replicate 32 0))
   rw[<-ebl]at BB;have hq:∀s:List UInt8,(s=List.replicate 32 0)↔((tx s).toList==bl.toList)=true:=λs=>by
    rw[ebl,beq_iff_eq,ByteArray.toList_eq,ByteArray.toList_eq,gH,gH]
   clear F F0 F1 hz0 hz1 hp h0 h1 FS FN ebl a0 a1 a2 b0 b1 b2 j0 j1 j2 j3 z0' z1' z2' z3';by_cases c0:s0=List.replicate 32 0
   ·have G:=h_ (FZ.out (by rw[if_pos (.inl c0)]));have q0:((tx s0).toList==bl.toList)=true:=(hq s0).1 c0;obtain⟨x,ex⟩:=x_ (tx s0)
    rw[<-ex]at q0⊢;clear c0 hq FZ FY ex;go_wp2_with (rw[<-EW.out])
    refine(BB.out _).mono ?_;rintro e w4 ⟨rfl,hb4⟩;have HB4:=h_ (HB3.out.trans (hb4.mono HB3.out.size));clear hb4;go_wp2_with fail;exact G.out _ HB4.out
   ·have q0:((tx s0).toList==bl.toList)=false:=by
     cases h:((tx s0).toList==bl.toList)with
     |false=>rfl
     |true=>exact absurd ((hq s0).2 h) c0
    by_cases c1:s1=List.replicate 32 0
    ·have G:=h_ (FZ.out (by rw[if_pos (.inr c1)]));have q1:((tx s1).toList==bl.toList)=true:=(hq s1).1 c1;obtain⟨x,ex⟩:=x_ (tx s0)
     obtain⟨y,ey⟩:=x_ (tx s1)
     rw[<-ex]at q0⊢;rw[<-ey]at q1⊢;clear c0 c1 hq FZ FY ex ey;go_wp2_with (rw[<-EW.out])
     refine(BB.out _).mono ?_;rintro e w4 ⟨rfl,hb4⟩;have HB4:=h_ (HB3.out.trans (hb4.mono HB3.out.size));clear hb4;go_wp2_with fail;refine(BB.out _).mono ?_;rintro e w5 ⟨rfl,hb5⟩;have HB5:=h_ (HB4.out.trans (hb5.mono HB4.out.size));clear hb5;go_wp2_with fail;exact G.out _ HB5.out
    ·have G:=h_ (FY.out (by rw[if_neg (λh=>h.elim c0 c1)]));have q1:((tx s1).toList==bl.toList)=false:=by
      cases h:((tx s1).toList==bl.toList)with
      |false=>rfl
      |true=>exact absurd ((hq s1).2 h) c1
     obtain⟨x,ex⟩:=x_ (tx s0)
     obtain⟨y,ey⟩:=x_ (tx s1)
     rw[<-ex]at q0⊢;rw[<-ey]at q1⊢;clear c0 c1 hq FZ FY ex ey;go_wp2_with (rw[<-EW.out])
     refine(BB.out _).mono ?_;rintro e w4 ⟨rfl,hb4⟩;have HB4:=h_ (HB3.out.trans (hb4.mono HB3.out.size));clear hb4;go_wp2_with fail;refine(BB.out _).mono ?_;rintro e w5 ⟨rfl,hb5⟩;have HB5:=h_ (HB4.out.trans (hb5.mono HB4.out.size));clear hb5;go_wp2_with fail;exact G.out _ HB5.out
end Go.Proofs.YtkmbmfengcdmoaaGreatDoor
namespace Go.Jn
theorem qg(st:List UInt8)(base:Nat):∀m,32*(base+m)<=st.length->(List.range' 0 m).flatMap (λk=>sec st (base+k))=(st.drop (32*base)).take (32*m)
 |0,_=>by simp
 |m+1,h=>by
  rw[List.range'_concat,DU,qg st base m (by omega)];simp only[nW,Nat.one_mul,BZ,Se,DS];unfold sec;rw[Nat.mul_add 32 m 1,KJ,List.take_add,List.drop_drop];congr 3;omega
theorem Fa(st:List UInt8)(size h len:Nat)(hl:32*(2+h*size+(len+31) / 32)<=st.length):
  ((if len=0 then []else Go.Jn.cW 0 len).flatMap (λk=>sec st (2+h*size+k))).take len=half st size h len:=by
 by_cases h0:len=0
 ·subst h0;simp[half]
 ·rw[if_neg h0];unfold cW;rw[nW,Nat.zero_div,Nat.sub_zero,qg st (2+h*size) _ hl,List.take_take,Sf (by omega)];rfl
theorem uj{st:List UInt8}{size h len:Nat}(hl:32*(2+h*size+(len+31) / 32)<=st.length):
  len<=((if len=0 then []else Go.Jn.cW 0 len).flatMap (λk=>sec st (2+h*size+k))).length:=by
 by_cases h0:len=0
 ·omega
 ·rw[if_neg h0];unfold cW;rw[nW,Nat.zero_div,Nat.sub_zero,qg st (2+h*size) _ hl,jQ,zS];omega
end Go.Jn
namespace Go.Proofs.YtkmbmfengcdmoaaGreatDoor
open Go.RowKit Go.ay Go.Jn Go.Dk Go.Mp Go.Rf Go.Shelf
attribute [local go_sem] Oper.semAt_some

theorem lH.rj{w0 w:World}{B b:Nat}{l:List UInt8}(h:lH w0 B b l w)(s:ByteArray)(hl:l.length+s.size<=140737488355328):
  Calls Tryz.prog 57 #[.pointer (some ⟨b,0,none⟩), .string s] w λe w'=>e= .returned (.tuple #[.int .i64 s.size, .nilIface])/\lH w0 B b (l++s.data.toList) w'/\Lib.OthersKept 5 (some b) w w'/\Below B w w':=by
 obtain⟨h1,h2,h3⟩:=h;refine(Any.Builder_WriteString_k xV Af B b (Lib.byteCells l) s w h1 (by simpa[Lib.byteCells]using hl) (fO h3 h2.size)).mono ?_;rintro e w' ⟨rfl,h4,h5,h6⟩;refine⟨rfl,⟨.inr ?_,h2.trans h5,h3⟩,h6,h5⟩;have e1:Lib.byteCells (l++s.data.toList)=Lib.byteCells l++Lib.strCells s:=by simp[Lib.byteCells,Lib.strCells]
 rw[e1];exact h4
theorem lH.JM{w0 w:World}{B b:Nat}{l:List UInt8}(h:lH w0 B b l w):
  Calls Tryz.prog 60 #[.pointer (some ⟨b,0,none⟩)] w λe w'=>e= .returned (.string ⟨l.toArray⟩)/\lH w0 B b l w'/\Lib.OthersKept 5 (some b) w w'/\Below B w w':=by
 obtain⟨h1,h2,h3⟩:=h;refine(Tryz.Builder_String_any_k B b l w h1 (fO h3 h2.size)).mono ?_;rintro e w' ⟨rfl,h4,h5,h6⟩;exact⟨rfl,⟨h4,h2.trans h5,h3⟩,h6,h5⟩
theorem Lc{β:Type}(w0:World)(B b B':Nat)(f:β->List UInt8)(hB:B<=B'):OwnFrom B' (λs W=>lH w0 B b (f s) W):=by
 intro s X Y row h hg hr;obtain⟨h1,h2,h3⟩:=h;have hne:∀k c t fz,X.heap[k]? =some (Obj.cells c t fz)->Y.heap[k]? =X.heap[k]? :=λk c t fz hk=>hg.block k (iS.1 hk).1 (λe=>by
  obtain⟨_,o,ho,hc⟩:=hr k e.symm;rw[hk]at ho;cases ho;cases hc)
 have go:∀p,Lib.BuilderAtF 119 5 B b p (Lib.byteCells (f s)) X->Lib.BuilderAtF 119 5 B b p (Lib.byteCells (f s)) Y:=by
  rintro p ⟨k1,v,k2,⟨k3,k4⟩,k5⟩;refine⟨k1,v,(hne b _ _ _ k2).trans k2,⟨k3, ?_⟩,k5⟩;rcases k4 with k4|⟨g,cap,cur,fz,j1,j2,j3,j4⟩
  ·exact .inl k4
  ·exact .inr ⟨g,cap,cur,fz,j1,j2,(hne g _ _ _ j3).trans j3,j4⟩
 exact⟨h1.imp (go _) (go _),h2.grown hg (fO h3 h2.size) (λr e=>fO hB (hr r e).1),h3⟩
theorem ir{w w':World}{e:TypeId}{b k:Nat}{cs:List Value}{T:TypeId}(h:Lib.OthersKept e (some b) w w')(hk:ay w k cs T)(hT:T≠e)(hb:k≠b):ay w' k cs T:=
 h k _ hk (by simpa using hb) (λc fz hh=>by cases hh;exact hT rfl)
def CI(w:World)(st:List UInt8)(base jb len half q:Nat)(pre:List Nat)(W:World):Prop:=
 lH w w.heap.size (w.heap.size+1) (pre.flatMap (λk=>sec st (base+k))) W/\ay W w.heap.size [.pointer (some ⟨jb,0,none⟩)] 101/\
  ay W (q+3) [.int .i64 (len:Int)] 3/\ay W (q+2) [.int .i64 ((0:Nat):Int)] 3/\ay W (q+1) [.int .i64 (half:Int)] 3/\ay W q [.pointer (some ⟨jb,0,none⟩)] 101
def FI(q jb:Nat)(k:Nat):Prop:=k≠q+3/\k≠q+2/\k≠q+1/\k≠q/\k≠jb
def CP(w:World)(l:List UInt8)(jb len D:Nat)(x:World):Prop:=
 lH w w.heap.size (w.heap.size+1) l x/\ay x w.heap.size [.pointer (some ⟨jb,0,none⟩)] 101/\x.heap[D]? =some (.deferred (some []))/\x.cell? ⟨w.heap.size,0,none⟩=some (.pointer (some ⟨jb,0,none⟩))/\x.cell? ⟨jb,2,none⟩=some (.int .i64 (len:Int))
theorem lL{β:Type}(k:Nat)(cs:List Value)(t:TypeId):Own (fun(_:β) W=>ay W k cs t):=by
 intro s X Y row h hg hr;refine(hg.block k h.lt (λe=> ?_)).trans h;obtain⟨o,ho,hc⟩:=hr k e.symm;rw[show X.heap[k]? =_ from h]at ho;cases ho;cases hc
theorem NU(w:World)(st:List UInt8)(base jb len half q B:Nat)(hB:w.heap.size<=B):OwnFrom B (CI w st base jb len half q):=
 OwnFrom.and (Lc _ _ _ _ _ hB) (OwnFrom.and (Own.from (lL _ _ _) _) (OwnFrom.and (Own.from (lL _ _ _) _) (OwnFrom.and (Own.from (lL _ _ _) _) (OwnFrom.and (Own.from (lL _ _ _) _) (Own.from (lL _ _ _) _)))))
set_option maxHeartbeats 400000 in
theorem yl{w:World}{jb b bs bm n a:Nat}{pv rv:Value}{br:Bool}{v:Nat×Nat×Nat}{d:DD}(hd:aI w b bs bm pv d n)(hon:d.on=true)(hn:4<=n)(hj:ay w jb (dW v a ((n-2) / 2) b rv br) 189)(h1:v.2.1<=1)(h2:v.2.2<=32*((n-2) / 2)):
  Calls Tryz.prog 106 #[.pointer (some ⟨jb,0,none⟩)] w λe w'=>e= .returned (.string (tx (half (nc d) ((n-2) / 2) v.2.1 v.2.2)))/\Below w.heap.size w w':=by
 have hn2:=hd.ok.n2;obtain⟨num,h,len⟩:=v;dsimp only at h1 h2⊢;obtain⟨size,es⟩:=x_ ((n-2) / 2)
 rw[<-es]at hj h2⊢;have hhs:h*size<=size:=by
  have:h=0\/h=1:=by omega
  rcases this with rfl|rfl<;>simp
 have hL:32*(2+h*size+(len+31) / 32)<=(nc d).length:=by rw[mD hd.ok];omega
 have HSE:=h_ (Fa (nc d) size h len hL);have HLE:=h_ (uj hL);have HSL:Hid (∀k,k∈cW 0 len->2+h*size+k<n/\(sec (nc d) (2+h*size+k)).length=32):=λk hk=>by
  unfold cW at hk;rw[List.mem_range'_1]at hk;exact⟨by omega,ij (by rw[mD hd.ok];omega)⟩
 have HD:=h_ (fun(w':World) (hb:Below w.heap.size w w') (s:Nat) (hs:s<n)=>sQ (jb:=jb) (w:=w') (by exact(hj.below hb hj.lt).ag 5 _ rfl) (hd.below hb) hon s hs);have HJ:=h_ hj;have hlen:len<=64000:=by omega
 have HB0:=h_ (Below.refl w.heap.size w);obtain⟨res,eres⟩:=x_ (tx (half (nc d) size h len))
 rw[<-eres];have ER:=h_ eres;clear hd hon hj eres hL;obtain⟨st,est⟩:=x_ (nc d)
 rw[<-est]at HSE HLE HSL HD ER;clear est;have hmf:∀(fn:Fn) (first cap:Array Value) (w:World),(Instr.makeFunc fn first cap).run Tryz.prog w= .ok (.func fn first cap) w:=λ_ _ _ _=>rfl
 refine xX 4 Tryz.func106 rfl ?_;simp only[Tryz.ntmps106,tY,kq,qA,Nat.reduceAdd,Nat.reduceSub,M0,MZ,M7,M6,xK,xC];refine gI (ff ?_);go_wp2_with fail;refine gI (ff ?_);go_wp2_with fail;refine gI (gI (ff ?_));go_wp2_with fail;obtain⟨V,eV⟩:=x_ ((w.alloc (.cells #[.pointer (some ⟨jb,0,none⟩)] 101)).alloc (.cells #[.pointer none, .slice none 0 0] 119))
 have HBV:Hid (Below w.heap.size w V):=by rw[eV];exact((Below.refl _ w).alloc (aL _) _).alloc (by simp) _
 have kJ:Hid (ay V w.heap.size [.pointer (some ⟨jb,0,none⟩)] 101):=by rw[eV];exact(ay.new w _ _).alloc _
 have kB:Hid (lH w w.heap.size (w.heap.size+1) [] V):=by
  rw[eV]
  have:=lH.new w (w.alloc (.cells #[.pointer (some ⟨jb,0,none⟩)] 101)) w.heap.size ((Below.refl _ w).alloc (aL _) _) (aL _);rw[show(w.alloc (.cells #[.pointer (some ⟨jb,0,none⟩)] 101)).heap.size=w.heap.size+1 by simp]at this;exact this
 have VS:Hid (V.heap.size=w.heap.size+2):=by rw[eV];show _=_;simp
 rw[<-eV];clear eV;have c0:=kJ.out.ag 0 _ rfl;have hjV:=HJ.out.below HBV.out HJ.out.lt;have c1:=hjV.ag 1 _ rfl;have c2:=hjV.ag 2 _ rfl;dsimp only at c1 c2;refine Free.ai 11 [] (λy=>Below V.heap.size V y/\y.cell? ⟨w.heap.size,0,none⟩=some (.pointer (some ⟨jb,0,none⟩))/\y.cell? ⟨jb,1,none⟩=some (.int .i64 (h:Int))/\y.cell? ⟨jb,2,none⟩=some (.int .i64 (len:Int))) (by kernel_rfl) (by kernel_rfl) (Free.aW (λj mk r hf=>by cases hf)) ⟨(Below.refl _ _).drew,c0,c1,c2⟩
  (λ_ _ h g=>⟨h.1.trans (Below.mono g h.1.size),aO h.2.1 g,aO h.2.2.1 g,aO h.2.2.2 g⟩) ?_
 simp only[eJ,dT];clear c0 c1 c2 hjV;iterate 11 (apply Free.ae (Free.wq rfl) rfl;(intro w' hB hA;obtain⟨qB,q1,q2,q3⟩:=hB;clear hA qB;go_light;go_simp<;>rfl);(try simp only[Pt]))
 apply Free.ax;intro V1 hB1 _ _;simp only[fm,fo];have HB1:=h_ (HBV.out.trans (hB1.1.mono HBV.out.size));have KB1:=h_ (kB.out.grow hB1.1);have KJ1:=h_ (kJ.out.below hB1.1 kJ.out.lt);have VS1:Hid (w.heap.size+2<=V1.heap.size):=by have:=hB1.1.size;rw[VS.out]at this;exact this
 clear hB1 kB kJ HBV VS;go_wp2_with fail;refine(ml jb h 0 len).mono ?_;rintro e w' ⟨rfl,hw'⟩;obtain⟨q,eq⟩:=x_ V1.heap.size
 rw[<-eq];rw[<-eq]at VS1;have HBW:Hid (Below w.heap.size w w'):=by rw[hw'];exact(((HB1.out.alloc HB1.out.size _).alloc (by have:=HB1.out.size;simp;omega) _).alloc (by have:=HB1.out.size;simp;omega) _).alloc (by have:=HB1.out.size;simp;omega) _
 have HI0:Hid (CI w st (2+h*size) jb len h q [] w'):=by
  rw[hw',eq];refine⟨?_,(((KJ1.out.alloc _).alloc _).alloc _).alloc _, ?_, ?_, ?_, ?_⟩
  ·exact(((KB1.out.grow ((Below.refl _ _).alloc (aL _) _)).grow ((Below.refl _ _).alloc (aL _) _)).grow ((Below.refl _ _).alloc (aL _) _)).grow ((Below.refl _ _).alloc (aL _) _)
  ·exact eY (by simp)
  ·exact bZ (eY (by simp))
  ·exact bZ (bZ (eY (by simp)))
  ·exact bZ (bZ (bZ (eY rfl)))
 have hsz:w'.heap.size=q+4:=by rw[hw',eq];simp
 have hjb:jb<w.heap.size:=HJ.out.lt;have hq:w.heap.size+2<=q:=VS1.out;have HSA:Hid (qF w' (q+3) (q+2) (q+1) q jb len 0 h size):=
  ⟨HI0.out.2.2.1.ag 0 _ rfl,HI0.out.2.2.2.1.ag 0 _ rfl,HI0.out.2.2.2.2.1.ag 0 _ rfl,HI0.out.2.2.2.2.2.ag 0 _ rfl,(HJ.out.below HBW.out HJ.out.lt).ag 4 _ rfl⟩
 obtain⟨base,eb⟩:=x_ (2+h*size)
 have EB:=h_ eb;rw[<-eb]at HI0 HSE HLE HSL;clear hw' eb KB1 KJ1 HB1 eq;go_wp2_with fail;refine tT ?_;refine vO (α:=Nat) (n:=4) (encs:=Ij base) (F:=FI q jb) (gf:=224) rfl (enters_of Tryz.func224 (by kernel_rfl) rfl) (λk hk=>⟨by omega,by omega,by omega,by omega,by omega⟩)
  (EB.out▸rh 3 (q+3) (q+2) (q+1) q jb (by decide) (FI q jb) h 0 len size (λh=>h.1 rfl) (λh=>h.2.1 rfl) (λh=>h.2.2.1 rfl) (λh=>h.2.2.2.1 rfl) (λh=>h.2.2.2.2 rfl) h1 (by omega) (by omega) (by omega) w' HSA.out) (λ_=>rfl)
  (CI w st base jb len h q) (λ_ _=>False) (NU w st base jb len h q _ (by omega)) HI0.out ?a1 ?assign ?body ?done ?panic
 case panic=>intro D ch W _ hf _;exact hf.elim
 case assign=>
  intro l x W K hK
  gi_wp2
  exact hK
 case body=>
  clear HI0 HSA;go_light;rintro l pre k W hCI hNx;have HCI:=h_ hCI;have hk:k∈cW 0 len:=hNx.subset (by simp);obtain⟨hs1,hs2⟩:=HSL.out k hk;have hpl:(pre.flatMap (λk=>sec st (base+k))).length<=100000000:=by
   have h1:∀x∈pre,(sec st (base+x)).length=32:=λx hx=>(HSL.out x (hNx.subset (by simp[hx]))).2
   have h2:pre.length<=(cW 0 len).length:=by have:=hNx.length_le;simp at this;omega
   have h3:(cW 0 len).length<=4000:=by unfold cW;rw[Qa];omega
   have h4:∀p:List Nat,(∀x∈p,(sec st (base+x)).length=32)->(p.flatMap (λk=>sec st (base+k))).length=32*p.length:=λp=>by
    induction p with
    |nil=>intro _;rfl
    |cons y p ih=>intro h;rw[BZ,fu,h y (by simp),ih (λx hx=>h x (by simp[hx])),kq];omega
   rw[h4 pre h1];omega
  have c0:=hCI.2.1.ag 0 _ rfl;obtain⟨s,hse⟩:=x_ (base+k:Nat)
  have es:(s:Int)=(base:Int)+(k:Int):=by omega
  have RD:=h_ (HD.out W hCI.1.bl s (by omega));have WS:=h_ (hCI.1.rj (tx (sec st s)) (by rw[ft,hse,hs2];omega));rw[gH]at WS;obtain⟨x,ex⟩:=x_ (tx (sec st s))
  rw[<-ex]at RD WS;rw[<-es];have HSX:=h_ hse;clear hNx hk hs1 hs2 hpl hCI ex es hse
  gi_wp2
  refine⟨trivial,Free.dz ?_⟩;refine RD.out.mono ?_;rintro e w2 ⟨rfl,rfl⟩
  gi_wp2
  refine⟨trivial,Free.dz ?_⟩;refine WS.out.mono ?_;rintro e w2 ⟨rfl,hb2,ho2,hl2⟩;have FIN:Hid (KeepsFrom w'.heap.size W w2/\aJ (FI q jb) W w2/\CI w st base jb len h q (pre++ [k]) w2):=by
   obtain⟨k1,k2,k3,k4,k5,k6⟩:=HCI.out;have n1:=ir ho2 k2 (by decide) (by omega);have n2:=ir ho2 k3 (by decide) (by omega);have n3:=ir ho2 k4 (by decide) (by omega);have n4:=ir ho2 k5 (by decide) (by omega);have n5:=ir ho2 k6 (by decide) (by omega);refine⟨⟨?_,λj o hj ho hc=>ho2 j o ho (by simp;omega) (λc fz e=>by rw[e]at hc;cases hc)⟩,⟨hl2.os,hl2.tape,hl2.output, ?_,λj hj hF=> ?_⟩, ?_,n1,n2,n3,n4,n5⟩
   ·exact hl2.size
   ·exact hl2.size
   ·rcases Classical.em (j<w.heap.size)with hjw|hjw
    ·exact hl2.block j hjw
    ·have:j=q+3\/j=q+2\/j=q+1\/j=q:=by unfold FI at hF;omega
     rcases this with rfl|rfl|rfl|rfl
     ·exact n2.trans k3.symm
     ·exact n3.trans k4.symm
     ·exact n4.trans k5.symm
     ·exact n5.trans k6.symm
   ·rw[DU,BZ,Se,DS, <-HSX.out];exact hb2
  clear hb2 ho2 hl2 RD WS HCI
  gi_wp2
  exact FIN.out
 case done=>
  clear HI0 HSA;go_light;rintro D xs W hD rfl hCI hmk;have HCI:=h_ hCI;have c0:=hCI.2.1.ag 0 _ rfl;refine gI (n:=4) (ff (n:=4) ?_);dsimp only;have HLD:Hid (len<=(List.flatMap (λk=>sec st (base+k)) (if len=0 then []else cW 0 len)).length):=HLE.out;obtain⟨l,el⟩:=x_ (List.flatMap (λk=>sec st (base+k)) (if len=0 then []else cW 0 len))
  have hB:=hCI.1;rw[<-el]at hB HLD HSE;have kJ:=hCI.2.1;have c2:=(HJ.out.below hB.bl HJ.out.lt).ag 2 _ rfl;dsimp only at c2;have E2:Hid (∀y,lH w w.heap.size (w.heap.size+1) l y->y.cell? ⟨jb,2,none⟩=some (.int .i64 (len:Int))):=λy hy=>(HJ.out.below hy.bl HJ.out.lt).ag 2 _ rfl
  letI:Fre2.Rel:=⟨λx y=>CP w l jb len D x->CP w l jb len D y,λ_ h=>h,λ_ _ _ h k x=>k (h x)⟩
  refine Fre2.ai 6 [(0, .det (.string ⟨l.toArray⟩))] (CP w l jb len D) (by kernel_rfl) (by kernel_rfl) ?_ ⟨hB.grow (gj W 1),kJ,hmk,c0,c2⟩
   (λ_ _ h g=>g h) ?_
  ·exact Fre2.aW (λj mk r hf=>by simp only[Free.find]at hf;repeat' (first|cases hf|split at hf))
  simp only[eJ,dT];clear c0 c2 hB kJ hmk hCI;apply Fre2.aC (Free.wq rfl) rfl
  ·intro y hB' _;refine Free.au (f:=60) (args:= #[.pointer (some ⟨w.heap.size+1,0,none⟩)]) (by clear hB';go_simp<;>rfl) ?_;refine(hB'.1.JM).mono ?_;rintro e w3 ⟨rfl,hb3,ho3,_⟩;have kk:=ir ho3 hB'.2.1 (by decide) (by omega);exact⟨_,rfl,λ_=>⟨hb3,kk,ho3 D _ hB'.2.2.1 (by simp;omega) (λc fz e=>by cases e),kk.ag 0 _ rfl,E2.out _ hb3⟩,rfl⟩
  simp only[Pt];iterate 5 (apply Fre2.ae (Free.wq rfl) rfl;(intro w' hB hA;obtain⟨qB,qJ,qD,q0,q2⟩:=hB;clear hA qB qJ qD;go_light;go_simp<;>rfl);(try simp only[Pt]))
  apply Fre2.ax;intro w4 hB4 _ _;simp only[fm,fo];have HB4:=h_ hB4;have HX:Hid ((⟨l.toArray⟩:ByteArray).extract 0 len=res):=by show _=_;rw[ER.out, <-HSE.out];apply Sl;simp[tx]
  have hle:len<=(⟨l.toArray⟩:ByteArray).size:=by show len<=l.toArray.size;simpa using HLD.out
  obtain⟨x,ex⟩:=x_ (⟨l.toArray⟩:ByteArray)
  rw[<-ex]at HX hle⊢;clear hB4 ex;go_wp2_with fail;rw[HX.out];refine ff (n:=4) ?_;go_wp2_with fail;refine⟨by simp, .inl ⟨D,_,rfl,run_takeDeferred HB4.out.2.2.1, ?_⟩⟩;refine⟨_,results_tmp rfl _ _ _,rfl, ?_⟩;exact HB4.out.1.bl.grown (grownBy_putObj' _ D _) (by have:=HB4.out.1.bl.size;omega) (λk e=>by cases e;omega)
end Go.Proofs.YtkmbmfengcdmoaaGreatDoor
namespace Go.Proofs.YtkmbmfengcdmoaaGreatDoor
open Go.RowKit Go.ay Go.Jn Go.Rf

theorem Ah(p q:Addr)(w:World):
  CallsD Tryz.prog 165 #[.pointer (some p), .pointer (some q)] .returning w λe u' w'=>e= .returned (.tuple #[])/\u'= .returning/\w'=w:=by
 refine callsD_of_wpS Tryz.func165 rfl λc₀ cs hu=> ?_
 apply wpS_seq;apply wpS_region;simp[wpOpsS,go_sem,recoverD,hu,Tryz.ntmps165,Exit.thenS];apply wpS_seq;apply wpS_region;simp[wpOpsS,go_sem,Exit.thenS];refine wpS_cond (t:=false) (by simp[Act.eval,Array.replicate]) ?_;simp only[GA,B6];refine wpS_of_wp (wp_skip ?_);cases c₀
 simp_all [bodyPostS,results,Tryz.results165]
theorem Ed(a b:Nat)(c x:Int)(jb:Nat)(w:World)(h1:w.cell? ⟨a,0,none⟩=some (.pointer (some ⟨jb,0,none⟩)))(h2:w.cell? ⟨jb,7,none⟩=some (.bool false))(h3:w.frozen? ⟨jb,7,none⟩=false)
  (h4:w.cell? ⟨b,0,none⟩=some (.int .i64 x)) (h5:w.frozen? ⟨b,0,none⟩=false) (_h6:b≠jb):
  CallsD Tryz.prog 165 #[.pointer (some ⟨a,0,none⟩), .pointer (some ⟨b,0,none⟩)] (.panicking (bad c)) w λe u' w'=>
   e= .returned (.tuple #[])/\u'= .panicking [{v:= .iface 265 (.int .i64 c),recovered:=true}]/\w'=((w.setCell ⟨jb,7,none⟩ (.bool true)).setCell ⟨b,0,none⟩ (.int .i64 21)).setCell ⟨b,0,none⟩ (.int .i64 c):=by
 refine callsD_of_wpS Tryz.func165 rfl λc₀ cs hu=> ?_
 apply wpS_seq;apply wpS_region;unfold bad at hu;have hta:∀w,(Instr.typeAssert (.iface 265 (.int .i64 c)) 20 265 true).run Tryz.prog w= .ok (.tuple #[.int .i64 c, .bool true]) w:=λw=>by kernel_rfl
 simp[wpOpsS,go_sem,recoverD,hu,Tryz.ntmps165,Exit.thenS];apply wpS_seq;apply wpS_region;simp[wpOpsS,go_sem,Exit.thenS];refine wpS_cond (t:=true) (by simp[Act.eval,Array.replicate]) ?_;simp only[uf];apply wpS_seq;apply wpS_region;simp[wpOpsS,go_sem,Exit.thenS,h1,h2,h3];apply wpS_seq;apply wpS_region;simp[wpOpsS,go_sem,Exit.thenS,h4,h5];apply wpS_seq;apply wpS_region;simp[wpOpsS,go_sem,Exit.thenS,hta];apply wpS_seq;apply wpS_region;simp[wpOpsS,go_sem,Exit.thenS];refine wpS_cond (t:=true) (by simp[Act.eval,Array.replicate]) ?_;simp only[uf];apply wpS_region;simp[wpOpsS,go_sem,h4,h5,bodyPostS,results,Tryz.results165]
theorem DP{w:World}{jb g:Nat}{cb:Array Value}(R:Ending->World->Prop)(eg:∀args w,(callFunc g args).run Tryz.prog w= .ok (.enter g args) w)(hjb:jb<w.heap.size)
  (hop:Calls Tryz.prog g cb ((w.alloc (.cells #[.pointer (some ⟨jb,0,none⟩)] 101)).alloc (.cells #[.int .i64 0] 52)) λe w'=>ay w' w.heap.size [.pointer (some ⟨jb,0,none⟩)] 101/\ay w' (w.heap.size+1) [.int .i64 0] 52/\
   ((e= .returned (.tuple #[])/\R (.returned (.int .i64 0)) (w'.setCell ⟨w.heap.size+1,0,none⟩ (.int .i64 0)))\/
    (∃c,e= .panicked (bad c)/\w'.cell? ⟨jb,7,none⟩=some (.bool false)/\w'.frozen? ⟨jb,7,none⟩=false/\R (.returned (.int .i64 c)) (((w'.setCell ⟨jb,7,none⟩ (.bool true)).setCell ⟨w.heap.size+1,0,none⟩ (.int .i64 21)).setCell ⟨w.heap.size+1,0,none⟩ (.int .i64 c))))):
  Calls Tryz.prog 102 #[.pointer (some ⟨jb,0,none⟩), .func (.func g) #[] cb] w R:=by
 have hmf:∀(fn:Fn) (first cap:Array Value) (w:World),(Instr.makeFunc fn first cap).run Tryz.prog w= .ok (.func fn first cap) w:=λ_ _ _ _=>rfl
 have HOP:=h_ hop;clear hop
 go_enter_defers Tryz.func102,Tryz.ntmps102
 go_wp2_with fail;refine HOP.out.mono ?_;rintro e w' ⟨k1,k2,⟨rfl,hR⟩|⟨c,rfl,h7,f7,hR⟩⟩
 ·have c2:=k2.ag 0 _ rfl;have f2:=k2.frozen 0;have HR:=h_ hR;clear hR k1;go_wp2_with fail;refine leaves_cons (f:=165) (args:= #[.pointer (some ⟨w.heap.size,0,none⟩), .pointer (some ⟨w.heap.size+1,0,none⟩)]) (by simp) (by simp[go_sem]) ?_;refine(Ah _ _ _).mono ?_;rintro e u' w'' ⟨rfl,rfl,rfl⟩;have hz:(w'.setCell ⟨w.heap.size+1,0,none⟩ (.int .i64 0)).cell? ⟨w.heap.size+1,0,none⟩=some (.int .i64 0):=World.cell?_setCell_same' _ _ _ (by rw[c2];rfl);have HR2:=HR.out;generalize (w'.setCell ⟨w.heap.size+1,0,none⟩ (.int .i64 0))=wz at hz HR2⊢;simp[Leaves,settle,results,Tryz.results102,go_sem,hz];exact HR2
 ·have c1:=k1.ag 0 _ rfl;have c2:=k2.ag 0 _ rfl;have f2:=k2.frozen 0;have HR:=h_ hR;clear hR;go_wp2_with fail;refine leaves_cons (f:=165) (args:= #[.pointer (some ⟨w.heap.size,0,none⟩), .pointer (some ⟨w.heap.size+1,0,none⟩)]) (by simp[bad]) (by simp[go_sem]) ?_;refine(Ed w.heap.size (w.heap.size+1) c 0 jb w' c1 h7 f7 c2 f2 (by omega)).mono ?_;rintro e u' w'' ⟨rfl,rfl,rfl⟩;have hz:(((w'.setCell ⟨jb,7,none⟩ (.bool true)).setCell ⟨w.heap.size+1,0,none⟩ (.int .i64 21)).setCell ⟨w.heap.size+1,0,none⟩ (.int .i64 c)).cell? ⟨w.heap.size+1,0,none⟩=some (.int .i64 c):=
   ((((k2.cL (a:=⟨jb,7,none⟩) (by show jb≠w.heap.size+1;omega) (.bool true)).set 0 (.int .i64 21)).set 0 (.int .i64 c)).ag 0 _ rfl)
  have HR2:=HR.out;generalize (((w'.setCell ⟨jb,7,none⟩ (.bool true)).setCell ⟨w.heap.size+1,0,none⟩ (.int .i64 21)).setCell ⟨w.heap.size+1,0,none⟩ (.int .i64 c))=wz at hz HR2⊢;simp[Leaves,settle,results,Tryz.results102,go_sem,hz];exact HR2
end Go.Proofs.YtkmbmfengcdmoaaGreatDoor
