/- What the regions of the law of final agreements have come to. No condition. The law of final agreements. Condition: the contract and the letters lie in memory; the variables of digest and strconv hold their numbers. Opening a contract that is a law's argument. No condition. The law of final agreements, for its card. Condition: as VeQ. -/
import Derived.Test.YtekfoaenomgjgaaGreatDoorZE
import Derived.Test.YtekfoaenomgjgaaGreatDoorFre6
import Derived.Test.YtekfoaenomgjgaaGreatDoorCvS
import Derived.Test.YtekfoaenomgjgaaGreatDoorYF
set_option maxRecDepth 100000
set_option linter.all false
namespace Go.Proofs.YtekfoaenomgjgaaGreatDoor
open Go.RowKit Go.W32 Go.Blk Go.Cs Go.Lib Go.Opn Go.Mg Go.Cv

def fA:Value->Array Value
 | .tuple #[.agg a,_,_]=>a
 |_=> #[]
def gN:Value->Nat
 | .int _ n=>n.toNat
 |_=>0
def UnF(l:List Rl)(y:Value)(w:World):Prop:=∃A k,y= .slice A l.length k/\SL w 25 ay A l
def AgF(L:List Pr)(y:Value)(w:World):Prop:=∃A k am,y= .slice A am.length k/\SL w 22 bH A am/\(∀x∈am,PatAt w x.1.x.patch x.2)/\am.map Prod.fst=L/\am.length<=4000
def IfP(c:Con)(L:List Pr)(day kn:Int)(c':ConM)(nums:List Int):Prop:=
 (errA c L.length=0/\∃am pl,am.map Prod.fst=L/\Ord am pl/\(c'.con,nums)=dp day (c,[]) ((bi kn pl).map Prod.fst))\/(errA c L.length≠0/\c'=gF/\nums= [])
def IfR(c:Con)(L:List Pr)(day kn:Int)(y:Value)(w:World):Prop:=
 ∃c' v nums,y= .tuple #[.agg (ak c').toArray,v, .int .i64 (errA c L.length)]/\IfP c L day kn c' nums/\ConOw 0 w c'/\w.ownsRow 0 3 1 v nums.length (nums.flatMap Cs.encI)/\nums.length<=4000
theorem UnF.below{l:List Rl}{y:Value}{w w':World}(h:UnF l y w)(hb:Below w.heap.size w w'):UnF l y w':=by
 obtain⟨A,k,e,hs⟩:=h
 exact⟨A,k,e,hs.below hb (Nat.le_refl _)⟩
theorem AgF.below{L:List Pr}{y:Value}{w w':World}(h:AgF L y w)(hb:Below w.heap.size w w'):AgF L y w':=by
 obtain⟨A,k,am,e,hs,hp,hm,hn⟩:=h
 exact⟨A,k,am,e,hs.below hb (Nat.le_refl _),fun x hx=>(hp x hx).below hb (Nat.le_refl _),hm,hn⟩
theorem IfR.keep{c:Con}{L:List Pr}{day kn:Int}{y:Value}{w w':World}(h:IfR c L day kn y w)(hk:∀(g:Nat) (cs:Array Value) (t:TypeId),w.heap[g]? =some (Obj.cells cs t (0,0))->t≠27->w'.heap[g]? =w.heap[g]?):IfR c L day kn y w':=by
 obtain⟨c',v,nums,e,hp,ho,hr,hn⟩:=h
 refine⟨c',v,nums,e,hp,ho.keep fun g T hg _ hT _=> ?_,owns_keep hr fun g hg=> ?_,hn⟩
 ·obtain⟨cs,t,rfl,hne⟩:=hT
  exact hk g cs t hg hne
 ·rcases hr.2 with⟨rfl,_⟩|⟨g',cap,cur,rfl,_,hg',_⟩
  ·cases hg
  ·have:g'=g:=Option.some.inj hg
   subst this
   exact hk _ _ _ hg' (by decide)
theorem IfR.below{c:Con}{L:List Pr}{day kn:Int}{y:Value}{w w':World}(h:IfR c L day kn y w)(hb:Below w.heap.size w w'):IfR c L day kn y w':=
 h.keep fun g _ _ hg _=>hb.block g (Array.getElem?_eq_some_iff.1 hg).1
theorem IfR.of{c:ConM}{am:List (Pr×Hd)}{L:List Pr}{day kn:Int}{W w:World}{e:Ending}(hm:am.map Prod.fst=L)(h:IfPost c am day kn W e w):Below W.heap.size W w/\∃y,e= .returned y/\IfR c.con L day kn y w:=by
 have hl:am.length=L.length:=by rw[<-hm,List.length_map]
 obtain⟨hb,c',v,nums,rfl,hor⟩:=h
 rw[hl]at hor
 refine⟨hb,_,rfl,c',v,nums,by rw[hl], ?_⟩
 rcases hor with⟨h1,⟨pl,ho,hf⟩,how,hn,hr⟩|⟨h1,rfl,rfl,rfl⟩
 ·exact⟨.inl ⟨h1,am,pl,hm,ho,hf⟩,how.mono (Nat.zero_le _),ap hr (Nat.zero_le _),hn⟩
 ·exact⟨.inr ⟨h1,rfl,rfl⟩,⟨World.ownsRow_nil _ _ _ _,World.ownsRow_nil _ _ _ _,World.ownsRow_nil _ _ _ _,World.ownsRow_nil _ _ _ _,World.ownsRow_nil _ _ _ _,fun _ h=>(by cases h)⟩,World.ownsRow_nil _ _ _ _,Nat.zero_le _⟩
structure Cd (iu ia ii ib is_ base:Nat) (l:List Rl) (c:Con) (L:List Pr) (day kn:Int) (zs:List Value) (d:Nat->Option Value) (w:World):Prop where
 bs:base<=w.heap.size
 ord:d is_≠none->d ii≠none/\d ib≠none
 o2:d ii≠none->d ia≠none
 un:∀y,d iu=some y->d is_=none->UnF l y w
 ag:∀y,d ia=some y->d is_=none->AgF L y w
 inf:∀y,d ii=some y->IfR c L day kn y w
 box:∀z,d ib=some z->base<=gN z/\(d is_=none->Row w (gN z) 27 zs)/\(d is_≠none->∀y,d ii=some y->Row w (gN z) 27 (fA y).toList)
section
variable {iu ia ii ib is_ base:Nat} {l:List Rl} {c:Con} {L:List Pr} {day kn:Int} {zs:List Value} {d:Nat->Option Value} {w w':World}
theorem Cd.grow(h:Cd iu ia ii ib is_ base l c L day kn zs d w)(hb:Below w.heap.size w w'):Cd iu ia ii ib is_ base l c L day kn zs d w':=
 ⟨Nat.le_trans h.bs hb.size,h.ord,h.o2,fun y e n=>(h.un y e n).below hb,fun y e n=>(h.ag y e n).below hb,fun y e=>(h.inf y e).below hb,fun z e=>⟨(h.box z e).1,fun n=>((h.box z e).2.1 n).below hb ((h.box z e).2.1 n).lt,fun n y e2=>((h.box z e).2.2 n y e2).below hb ((h.box z e).2.2 n y e2).lt⟩⟩
theorem cQ{d:Nat->Option Value}{k j:Nat}{x:Value}(h:j≠k):Fre6.upd d k x j=d j:=by unfold Fre6.upd;rw[if_neg h]
theorem upd_eq{d:Nat->Option Value}{k:Nat}{x:Value}:Fre6.upd d k x k=some x:=by unfold Fre6.upd;rw[if_pos rfl]
theorem Cd.other(h:Cd iu ia ii ib is_ base l c L day kn zs d w){k:Nat}{x:Value}(h1:k≠iu)(h2:k≠ia)(h3:k≠ii)(h4:k≠ib)(h5:k≠is_):Cd iu ia ii ib is_ base l c L day kn zs (Fre6.upd d k x) w:=by
 refine⟨h.bs, ?_, ?_, ?_, ?_, ?_, ?_⟩
 all_goals simp only[cQ h1.symm,cQ h2.symm,cQ h3.symm,cQ h4.symm,cQ h5.symm]
 ·exact h.ord
 ·exact h.o2
 ·exact h.un
 ·exact h.ag
 ·exact h.inf
 ·exact h.box
theorem Cd.early(h:Cd iu ia ii ib is_ base l c L day kn zs d w)(hd:d ii=none):d is_=none:=by
 cases e:d is_ with
 |none=>rfl
 |some x=>exact absurd hd (h.ord (by rw[e];simp)).1
theorem Cd.early2(h:Cd iu ia ii ib is_ base l c L day kn zs d w)(hd:d ib=none):d is_=none:=by
 cases e:d is_ with
 |none=>rfl
 |some x=>exact absurd hd (h.ord (by rw[e];simp)).2
theorem Cd.putI(h:Cd iu ia ii ib is_ base l c L day kn zs d w){x:Value}(hd:d ii=none)(ha:d ia≠none)(hx:IfR c L day kn x w)(h1:ii≠iu)(h2:ii≠ia)(h4:ii≠ib)(h5:ii≠is_):Cd iu ia ii ib is_ base l c L day kn zs (Fre6.upd d ii x) w:=by
 have hs:=h.early hd
 refine⟨h.bs, ?_, ?_, ?_, ?_, ?_, ?_⟩
 all_goals simp only[upd_eq,cQ h1.symm,cQ h2.symm,cQ h4.symm,cQ h5.symm]
 ·intro n;exact absurd hs n
 ·intro _;exact ha
 ·exact h.un
 ·exact h.ag
 ·rintro y e;cases e;exact hx
 ·intro z e;exact⟨(h.box z e).1,(h.box z e).2.1,fun n=>absurd hs n⟩
theorem Cd.putB(h:Cd iu ia ii ib is_ base l c L day kn zs d w){x:Value}(hd:d ib=none)(hx:base<=gN x)(hr:Row w (gN x) 27 zs)(h1:ib≠iu)(h2:ib≠ia)(h3:ib≠ii)(h5:ib≠is_):Cd iu ia ii ib is_ base l c L day kn zs (Fre6.upd d ib x) w:=by
 have hs:=h.early2 hd
 refine⟨h.bs, ?_, ?_, ?_, ?_, ?_, ?_⟩
 all_goals simp only[upd_eq,cQ h1.symm,cQ h2.symm,cQ h3.symm,cQ h5.symm]
 ·intro n;exact absurd hs n
 ·exact h.o2
 ·exact h.un
 ·exact h.ag
 ·exact h.inf
 ·rintro z e;cases e;exact⟨hx,fun _=>hr,fun n=>absurd hs n⟩
theorem Cd.putS(h:Cd iu ia ii ib is_ base l c L day kn zs d w){x y z:Value}(hd:d is_=none)(hi:d ii=some y)(hb:d ib=some z)(h2:is_≠ia)(h3:is_≠ii)(h4:is_≠ib):
  Below base w (w.setRow (gN z) (fA y))/\Cd iu ia ii ib is_ base l c L day kn zs (Fre6.upd d is_ x) (w.setRow (gN z) (fA y)):=by
 obtain⟨b1,b2,_⟩:=h.box z hb
 have hr:=b2 hd
 have hne:∀k,k≠gN z->(w.setRow (gN z) (fA y)).heap[k]? =w.heap[k]? :=fun k hk=>setRow_other hk
 refine⟨⟨rfl,rfl,rfl,by simp[World.setRow],fun k hk=>hne k (by omega)⟩,by have:=h.bs;simp[World.setRow];exact this, ?_, ?_, ?_, ?_, ?_, ?_⟩
 all_goals simp only[upd_eq,cQ h2.symm,cQ h3.symm,cQ h4.symm]
 ·intro _;rw[hi,hb];simp
 ·exact h.o2
 ·intro _ _ n;cases n
 ·intro _ _ n;cases n
 ·intro y' e
  refine(h.inf y' e).keep fun g cs t hg ht=>hne g fun e2=> ?_
  subst e2
  rw[show w.heap[gN z]? =_ from hr]at hg
  injection hg with hg
  injection hg with _ hg
  exact ht hg.symm
 ·intro z' e
  rw[hb]at e
  cases e
  refine⟨b1,fun n=>(by cases n),fun _ y' e=> ?_⟩
  rw[hi]at e
  cases e
  have hh:=setRow_heap _ _ _ (fA y) _ _ hr
  exact hh
end
end Go.Proofs.YtekfoaenomgjgaaGreatDoor

namespace Go.Proofs.YtekfoaenomgjgaaGreatDoor
open Go.RowKit Go.W32 Go.Blk Go.Cs Go.Lib Go.Opn Go.Mg Go.Cv

theorem small_start{m:Nat}{l:List Rl}(h:di m l=true):∀r∈l,r.1.patch.new.start.length<=1000000:=fun r hr=>by
 unfold di at h
 simp only[Bool.and_eq_true,List.all_eq_true]at h
 have h2:=h.2 r hr
 unfold gf ff at h2
 simp only[Bool.and_eq_true,decide_eq_true_eq]at h2
 omega
end Go.Proofs.YtekfoaenomgjgaaGreatDoor

namespace Go.Proofs.YtekfoaenomgjgaaGreatDoor
open Go.RowKit Go.W32 Go.Blk Go.Cs Go.Lib Go.Opn Go.Mg Go.Cv Go.ChangeShapes Go.WideShapes Go.Deep Go.OpenShut

instance:Inhabited Un:=⟨⟨⟨#[]⟩,0,0,0,0⟩⟩
instance:Inhabited Kl:=⟨(Cls.zero,none,0)⟩
instance:Inhabited AcT:=⟨⟨0,0,0,0,0,0,0⟩⟩
theorem cells_un:Tryz.prog.cellsOf 96=5:=by kernel_rfl
theorem cells_ac:Tryz.prog.cellsOf 98=7:=by kernel_rfl
theorem cells_kl:Tryz.prog.cellsOf 45=16:=by kernel_rfl
theorem cells_co:Tryz.prog.cellsOf 27=7:=by kernel_rfl
theorem un_of{H:Type}{enc:TypeId×Value->H}{w:World}{base:Nat}{spare:Nat->Bool}{held:Bool}{fuel:Nat}{cs:List Value}{x:DataW H×List MemPlace}(hf:DataW.trod enc Tryz.prog w base spare held fuel 96 cs=some x):∃a:Un,True/\∀(p:Nat) u,(cL a)[p]? =some u->cs[p]? =some u:=by
 obtain⟨a0,h0,_⟩:=gO (f:=5) (p:=0) Tryz.underlying9 (by kernel_rfl) hf
 obtain⟨a1,h1,_⟩:=al (f:=5) (p:=1) Tryz.underlying3 (by kernel_rfl) hf
 obtain⟨a2,h2,_⟩:=al (f:=5) (p:=2) Tryz.underlying3 (by kernel_rfl) hf
 obtain⟨a3,h3,_⟩:=al (f:=5) (p:=3) Tryz.underlying3 (by kernel_rfl) hf
 obtain⟨a4,h4,_⟩:=al (f:=5) (p:=4) Tryz.underlying3 (by kernel_rfl) hf
 refine⟨⟨a0,a1,a2,a3,a4⟩,trivial,fun p u hu=> ?_⟩
 match p,hu with
 |0,hu=>cases hu;exact h0
 |1,hu=>cases hu;exact h1
 |2,hu=>cases hu;exact h2
 |3,hu=>cases hu;exact h3
 |4,hu=>cases hu;exact h4
 |p+5,hu=>simp[cL]at hu
theorem ac_of{H:Type}{enc:TypeId×Value->H}{w:World}{base:Nat}{spare:Nat->Bool}{held:Bool}{fuel:Nat}{cs:List Value}{x:DataW H×List MemPlace}(hf:DataW.trod enc Tryz.prog w base spare held fuel 98 cs=some x):∃a:AcT,True/\∀(p:Nat) u,(cP a)[p]? =some u->cs[p]? =some u:=by
 obtain⟨a0,h0,_⟩:=al (f:=5) (p:=0) Tryz.underlying3 (by kernel_rfl) hf
 obtain⟨a1,h1,_⟩:=al (f:=5) (p:=1) Tryz.underlying3 (by kernel_rfl) hf
 obtain⟨a2,h2,_⟩:=al (f:=5) (p:=2) Tryz.underlying3 (by kernel_rfl) hf
 obtain⟨a3,h3,_⟩:=al (f:=5) (p:=3) Tryz.underlying3 (by kernel_rfl) hf
 obtain⟨a4,h4,_⟩:=al (f:=5) (p:=4) Tryz.underlying3 (by kernel_rfl) hf
 obtain⟨a5,h5,_⟩:=al (f:=5) (p:=5) Tryz.underlying3 (by kernel_rfl) hf
 obtain⟨a6,h6,_⟩:=al (f:=5) (p:=6) Tryz.underlying3 (by kernel_rfl) hf
 refine⟨⟨a0,a1,a2,a3,a4,a5,a6⟩,trivial,fun p u hu=> ?_⟩
 match p,hu with
 |0,hu=>cases hu;exact h0
 |1,hu=>cases hu;exact h1
 |2,hu=>cases hu;exact h2
 |3,hu=>cases hu;exact h3
 |4,hu=>cases hu;exact h4
 |5,hu=>cases hu;exact h5
 |6,hu=>cases hu;exact h6
 |p+7,hu=>simp[cP]at hu
theorem kl_of{H:Type}{enc:TypeId×Value->H}{w:World}{base:Nat}{spare:Nat->Bool}{held:Bool}{fuel:Nat}{cs:List Value}{x:DataW H×List MemPlace}(hf:DataW.trod enc Tryz.prog w base spare held fuel 45 cs=some x):∃a:Kl,(SL w 2 ar a.2.1 a.1.start/\a.1.start.length<=9223372036854775807)/\∀(p:Nat) u,(aF a)[p]? =some u->cs[p]? =some u:=by
 obtain⟨a0,h0,_⟩:=al (f:=5) (p:=0) Tryz.underlying3 (by kernel_rfl) hf
 obtain⟨a1,h1,_⟩:=al (f:=5) (p:=1) Tryz.underlying3 (by kernel_rfl) hf
 obtain⟨a2,h2,_⟩:=al (f:=5) (p:=2) Tryz.underlying3 (by kernel_rfl) hf
 obtain⟨a3,h3,_⟩:=al (f:=5) (p:=3) Tryz.underlying3 (by kernel_rfl) hf
 obtain⟨a5,h5,_⟩:=al (f:=5) (p:=5) Tryz.underlying3 (by kernel_rfl) hf
 obtain⟨a6,h6,_⟩:=al (f:=5) (p:=6) Tryz.underlying3 (by kernel_rfl) hf
 obtain⟨a9,h9,_⟩:=al (f:=5) (p:=9) Tryz.underlying3 (by kernel_rfl) hf
 obtain⟨a10,h10,_⟩:=al (f:=5) (p:=10) Tryz.underlying3 (by kernel_rfl) hf
 obtain⟨a11,h11,_⟩:=al (f:=5) (p:=11) Tryz.underlying3 (by kernel_rfl) hf
 obtain⟨a12,h12,_⟩:=al (f:=5) (p:=12) Tryz.underlying3 (by kernel_rfl) hf
 obtain⟨a13,h13,_⟩:=al (f:=5) (p:=13) Tryz.underlying3 (by kernel_rfl) hf
 obtain⟨a14,h14,_⟩:=al (f:=5) (p:=14) Tryz.underlying3 (by kernel_rfl) hf
 obtain⟨B,d,m,h4,g1,g2,g3,g4⟩:=bL (α:=Int×Int) (ec:=ar) (K:=fun a=>bn a.1/\bn a.2) (f:=5) (p:=4) Tryz.underlying41 (by rw[dP];decide) (fun f cs x h=>cond_of h) (by kernel_rfl) hf
 rw[dP]at g3
 obtain⟨a7,h7⟩:=da (f:=5) (p:=7) Tryz.underlying4 (by kernel_rfl) hf
 obtain⟨a8,h8⟩:=da (f:=5) (p:=8) Tryz.underlying4 (by kernel_rfl) hf
 obtain⟨a15,h15⟩:=da (f:=5) (p:=15) Tryz.underlying4 (by kernel_rfl) hf
 refine⟨(⟨a0,a1,a2,a3,m,a5,a6,a7,a8,a9,a10,a11,a12,a13,a14,a15⟩,(B,d)),⟨g3,g1⟩,fun p u hu=> ?_⟩
 match p,hu with
 |0,hu=>cases hu;exact h0
 |1,hu=>cases hu;exact h1
 |2,hu=>cases hu;exact h2
 |3,hu=>cases hu;exact h3
 |4,hu=>cases hu;exact h4
 |5,hu=>cases hu;exact h5
 |6,hu=>cases hu;exact h6
 |7,hu=>cases hu;exact h7
 |8,hu=>cases hu;exact h8
 |9,hu=>cases hu;exact h9
 |10,hu=>cases hu;exact h10
 |11,hu=>cases hu;exact h11
 |12,hu=>cases hu;exact h12
 |13,hu=>cases hu;exact h13
 |14,hu=>cases hu;exact h14
 |15,hu=>cases hu;exact h15
 |p+16,hu=>simp[aF,fN]at hu
theorem con_of{H:Type}{enc:TypeId×Value->H}{w:World}{base:Nat}{spare:Nat->Bool}{held:Bool}{fuel:Nat}{cs:List Value}{x:DataW H×List MemPlace}(hf:DataW.trod enc Tryz.prog w base spare held fuel 27 cs=some x):∃c:ConM,(ConAt w c/\ConSz c)/\∀(p:Nat) u,(ak c)[p]? =some u->cs[p]? =some u:=by
 obtain⟨a0,h0,_⟩:=al (f:=5) (p:=0) Tryz.underlying3 (by kernel_rfl) hf
 obtain⟨a5,h5,_⟩:=al (f:=5) (p:=5) Tryz.underlying3 (by kernel_rfl) hf
 obtain⟨A1,k1,l1,h1,b1,c1,s1,_⟩:=bL (α:=Int) (ec:=Cs.encI) (K:=bn) (f:=5) (p:=1) Tryz.underlying22 (by rw[cj];decide) (fun f cs x h=>int_of h) (by kernel_rfl) hf
 rw[cj]at s1
 obtain⟨A2,k2,l2,h2,b2,c2,s2,_⟩:=bL (α:=Un) (ec:=cL) (K:=fun _=>True) (f:=5) (p:=2) Tryz.underlying23 (by rw[cells_un];decide) (fun f cs x h=>un_of h) (by kernel_rfl) hf
 rw[cells_un]at s2
 obtain⟨A3,k3,l3,h3,b3,c3,s3,_⟩:=bL (α:=AcT) (ec:=cP) (K:=fun _=>True) (f:=5) (p:=3) Tryz.underlying24 (by rw[cells_ac];decide) (fun f cs x h=>ac_of h) (by kernel_rfl) hf
 rw[cells_ac]at s3
 obtain⟨A4,k4,l4,h4,b4,c4,s4,q4⟩:=bL (α:=Kl) (ec:=aF) (K:=fun a=>SL w 2 ar a.2.1 a.1.start/\a.1.start.length<=9223372036854775807) (f:=5) (p:=4) Tryz.underlying25 (by rw[cells_kl];decide) (fun f cs x h=>kl_of h) (by kernel_rfl) hf
 rw[cells_kl]at s4
 obtain⟨A6,k6,l6,h6,b6,c6,s6,_⟩:=bL (α:=Int) (ec:=Cs.encI) (K:=bn) (f:=5) (p:=6) Tryz.underlying22 (by rw[cj];decide) (fun f cs x h=>int_of h) (by kernel_rfl) hf
 rw[cj]at s6
 refine⟨⟨a0,l1,l2,l3,l4,a5,l6,A1,k1,A2,k2,A3,k3,A4,k4,A6,k6⟩,⟨⟨s1,s2,s3,s4,s6,fun k hk=>(q4 k hk).1⟩,⟨b1,b2,b3,b4,b6,c2,fun k hk=>(q4 k hk).2⟩⟩,fun p u hu=> ?_⟩
 match p,hu with
 |0,hu=>cases hu;exact h0
 |1,hu=>cases hu;exact h1
 |2,hu=>cases hu;exact h2
 |3,hu=>cases hu;exact h3
 |4,hu=>cases hu;exact h4
 |5,hu=>cases hu;exact h5
 |6,hu=>cases hu;exact h6
 |p+7,hu=>simp[ak]at hu
theorem open_con{H:Type}{enc:TypeId×Value->H}{w:World}{base:Nat}{spare:Nat->Bool}{held:Bool}{v:Value}{d:DataW H}{ps:List MemPlace}{r:Reach}{b0:Nat}(hv:Value.okWide Tryz.prog w r b0 27 v)(h:DataW.Trod enc Tryz.prog w base spare held 27 v d ps):
  ∃c:ConM,v= .agg (ak c).toArray/\ConAt w c/\ConSz c:=by
 obtain⟨cs,rfl,hsz⟩:=okWide_struct Tryz.underlying27 hv
 rw[cells_co]at hsz
 obtain⟨fuel,hf⟩:=h
 obtain⟨c,⟨ha,hz⟩,hcs⟩:=con_of hf
 refine⟨c, ?_,ha,hz⟩
 congr 1
 apply Array.ext'
 show cs.toList=ak c
 apply List.ext_getElem?
 intro i
 by_cases hi:i<7
 ·obtain⟨u,hu⟩:∃u,(ak c)[i]? =some u:=⟨_,List.getElem?_eq_getElem (by show i<7;exact hi)⟩
  rw[hu];exact hcs i u hu
 ·rw[List.getElem?_eq_none (by simp;omega),List.getElem?_eq_none (by show 7<=i;omega)]
end Go.Proofs.YtekfoaenomgjgaaGreatDoor

namespace Go.Proofs.YtekfoaenomgjgaaGreatDoor
open Go.RowKit Go.W32 Go.Blk Go.Cs Go.Lib Go.Opn Go.Mg Go.Cv
end Go.Proofs.YtekfoaenomgjgaaGreatDoor
