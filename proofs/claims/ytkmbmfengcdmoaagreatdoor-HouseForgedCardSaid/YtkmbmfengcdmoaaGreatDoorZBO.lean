/- From a walk to a row: a law that answers true and changes nothing that was there leaves its arguments as they read. No condition. -/
import Derived.Test.YtkmbmfengcdmoaaGreatDoorZAK
import Derived.Test.YtkmbmfengcdmoaaGreatDoorZAI
import Derived.Test.YtkmbmfengcdmoaaGreatDoorZAL
import Derived.Test.YtkmbmfengcdmoaaGreatDoorZAO
import Derived.Test.YtkmbmfengcdmoaaGreatDoorZBN
import Derived.Test.YtkmbmfengcdmoaaGreatDoorZAH
import Derived.SizedLaws
import Derived.Test.YtkmbmfengcdmoaaGreatDoorLFo47
import Derived.Test.YtkmbmfengcdmoaaGreatDoorA0
import Derived.ProofKit
import Derived.Below
import Derived.Carry
import Derived.ChangeSame
import Derived.OpenShut
set_option linter.all false
set_option maxRecDepth 100000
namespace Go.Proofs.YtkmbmfengcdmoaaGreatDoor
open Go.RowKit Go.ay Go.Cs Go.Opn Go.ChangeShapes Go.WideShapes Go.Deep Go.OpenShut

theorem fy:Tryz.prog.cellsOf 3=1:=by kernel_rfl
theorem jC:Tryz.prog.cellsOf 214=2:=by kernel_rfl
structure SC (x:Let):Prop where
 jc:cP x.kind/\cP x.j8/\cP x.number/\cP x.na/\cP x.day
 patch:∀n∈x.patch.jc,cP n
structure SD (w:World) (r:Rl):Prop where
 pat:qE w r.1.patch r.2
 nm:SC r.1
theorem Cm(b:Bool):cP (Eb b):=by cases b<;>(unfold cP Eb;decide)
theorem wH{H:Type}{enc:TypeId×Value->H}{w:World}{base:Nat}{spare:Nat->Bool}{held:Bool}{fuel:Nat}{cs:List Value}{x:DataW H×List MemPlace}(h:DataW.trod enc Tryz.prog w base spare held fuel 3 cs=some x):
  ∃a:Int,cP a/\∀(p:Nat) u,(Cs.encI a)[p]? =some u->cs[p]? =some u:=by
 obtain⟨n,hn,_,hw⟩:=DataW.trod_int Tryz.underlying3 h;refine⟨n,bounds_i64 hw,λp u hu=> ?_⟩;rw[hn];exact hu
theorem Cq{H:Type}{enc:TypeId×Value->H}{w:World}{base:Nat}{spare:Nat->Bool}{held:Bool}{fuel:Nat}{cs:List Value}{x:DataW H×List MemPlace}(hf:DataW.trod enc Tryz.prog w base spare held fuel 214 cs=some x):
  ∃a:Int×Int,(cP a.1/\cP a.2)/\∀(p:Nat) u,(fX a)[p]? =some u->cs[p]? =some u:=by
 obtain⟨a0,h0,w0⟩:=aG (f:=3) (p:=0) Tryz.underlying3 (by kernel_rfl) hf;obtain⟨a1,h1,w1⟩:=aG (f:=3) (p:=1) Tryz.underlying3 (by kernel_rfl) hf;refine⟨(a0,a1),⟨bounds_i64 w0,bounds_i64 w1⟩,λp u hu=> ?_⟩
 match p,hu with
 |0,hu=>cases hu;exact h0
 |1,hu=>cases hu;exact h1
 |p+2,hu=>simp[fX]at hu
instance:Inhabited Rl:=⟨(⟨0,0,0,0,0,kv.zero,⟨#[]⟩⟩,⟨none,0,none,0⟩)⟩
theorem Jo{p:kv}(h1:cP p.kind/\cP p.days)(h2:p.cl.length<=9223372036854775807)(h3:∀a∈p.cl,cP a)(h4:p.new.start.length<=9223372036854775807)(h5:∀a∈p.new.start,cP a.1/\cP a.2)
  (h6:∀n∈p.new.front,cP n) (h7:∀n∈p.new.back,cP n):∀n∈p.jc,cP n:=by
 intro n hn;have hl:∀k:Nat,k<=9223372036854775807->cP (k:Int):=λk hk=>by unfold cP;omega
 simp only[kv.jc,mT.jc,zT,lC,DR,DW,PT]at hn;rcases hn with((rfl|rfl|rfl)|hn)|((((hn|hn)|hn)|hn)|hn)
 ·exact h1.1
 ·exact h1.2
 ·exact hl _ h2
 ·exact h3 n hn
 ·exact h6 n hn
 ·rcases hn with rfl|rfl<;>exact Cm _
 ·exact h7 n hn
 ·rcases hn with rfl|rfl
  ·exact Cm _
  ·exact hl _ h4
 ·obtain⟨s,hs,hn⟩:=hn;rcases hn with rfl|rfl
  ·exact(h5 s hs).1
  ·exact(h5 s hs).2
open Go.W32 Go.Lib Go.Mg Go.Cv
instance:Inhabited Un:=⟨⟨⟨#[]⟩,0,0,0,0⟩⟩
instance:Inhabited Kl:=⟨(mT.zero,none,0)⟩
instance:Inhabited zY:=⟨⟨0,0,0,0,0,0,0⟩⟩
theorem ye:Tryz.prog.cellsOf 262=5:=by kernel_rfl
theorem ya:Tryz.prog.cellsOf 155=7:=by kernel_rfl
theorem yd:Tryz.prog.cellsOf 34=16:=by kernel_rfl
theorem Hs:Tryz.prog.cellsOf 27=7:=by kernel_rfl
theorem RW{H:Type}{enc:TypeId×Value->H}{w:World}{base:Nat}{spare:Nat->Bool}{held:Bool}{fuel:Nat}{cs:List Value}{x:DataW H×List MemPlace}(hf:DataW.trod enc Tryz.prog w base spare held fuel 262 cs=some x):∃a:Un,True/\∀(p:Nat) u,(lp a)[p]? =some u->cs[p]? =some u:=by
 obtain⟨a0,h0,_⟩:=gn (f:=5) (p:=0) Tryz.underlying9 (by kernel_rfl) hf;obtain⟨a1,h1,_⟩:=aG (f:=5) (p:=1) Tryz.underlying3 (by kernel_rfl) hf;obtain⟨a2,h2,_⟩:=aG (f:=5) (p:=2) Tryz.underlying3 (by kernel_rfl) hf;obtain⟨a3,h3,_⟩:=aG (f:=5) (p:=3) Tryz.underlying3 (by kernel_rfl) hf;obtain⟨a4,h4,_⟩:=aG (f:=5) (p:=4) Tryz.underlying3 (by kernel_rfl) hf;refine⟨⟨a0,a1,a2,a3,a4⟩,trivial,λp u hu=> ?_⟩
 match p,hu with
 |0,hu=>cases hu;exact h0
 |1,hu=>cases hu;exact h1
 |2,hu=>cases hu;exact h2
 |3,hu=>cases hu;exact h3
 |4,hu=>cases hu;exact h4
 |p+5,hu=>simp[lp]at hu
theorem Qk{H:Type}{enc:TypeId×Value->H}{w:World}{base:Nat}{spare:Nat->Bool}{held:Bool}{fuel:Nat}{cs:List Value}{x:DataW H×List MemPlace}(hf:DataW.trod enc Tryz.prog w base spare held fuel 155 cs=some x):∃a:zY,True/\∀(p:Nat) u,(ln a)[p]? =some u->cs[p]? =some u:=by
 obtain⟨a0,h0,_⟩:=aG (f:=5) (p:=0) Tryz.underlying3 (by kernel_rfl) hf;obtain⟨a1,h1,_⟩:=aG (f:=5) (p:=1) Tryz.underlying3 (by kernel_rfl) hf;obtain⟨a2,h2,_⟩:=aG (f:=5) (p:=2) Tryz.underlying3 (by kernel_rfl) hf;obtain⟨a3,h3,_⟩:=aG (f:=5) (p:=3) Tryz.underlying3 (by kernel_rfl) hf;obtain⟨a4,h4,_⟩:=aG (f:=5) (p:=4) Tryz.underlying3 (by kernel_rfl) hf;obtain⟨a5,h5,_⟩:=aG (f:=5) (p:=5) Tryz.underlying3 (by kernel_rfl) hf;obtain⟨a6,h6,_⟩:=aG (f:=5) (p:=6) Tryz.underlying3 (by kernel_rfl) hf;refine⟨⟨a0,a1,a2,a3,a4,a5,a6⟩,trivial,λp u hu=> ?_⟩
 match p,hu with
 |0,hu=>cases hu;exact h0
 |1,hu=>cases hu;exact h1
 |2,hu=>cases hu;exact h2
 |3,hu=>cases hu;exact h3
 |4,hu=>cases hu;exact h4
 |5,hu=>cases hu;exact h5
 |6,hu=>cases hu;exact h6
 |p+7,hu=>simp[ln]at hu
theorem QX{H:Type}{enc:TypeId×Value->H}{w:World}{base:Nat}{spare:Nat->Bool}{held:Bool}{fuel:Nat}{cs:List Value}{x:DataW H×List MemPlace}(hf:DataW.trod enc Tryz.prog w base spare held fuel 34 cs=some x):∃a:Kl,(SL w 2 fX a.2.1 a.1.start/\a.1.start.length<=9223372036854775807)/\∀(p:Nat) u,(oz a)[p]? =some u->cs[p]? =some u:=by
 obtain⟨a0,h0,_⟩:=aG (f:=5) (p:=0) Tryz.underlying3 (by kernel_rfl) hf;obtain⟨a1,h1,_⟩:=aG (f:=5) (p:=1) Tryz.underlying3 (by kernel_rfl) hf;obtain⟨a2,h2,_⟩:=aG (f:=5) (p:=2) Tryz.underlying3 (by kernel_rfl) hf;obtain⟨a3,h3,_⟩:=aG (f:=5) (p:=3) Tryz.underlying3 (by kernel_rfl) hf;obtain⟨a5,h5,_⟩:=aG (f:=5) (p:=5) Tryz.underlying3 (by kernel_rfl) hf;obtain⟨a6,h6,_⟩:=aG (f:=5) (p:=6) Tryz.underlying3 (by kernel_rfl) hf;obtain⟨a9,h9,_⟩:=aG (f:=5) (p:=9) Tryz.underlying3 (by kernel_rfl) hf;obtain⟨a10,h10,_⟩:=aG (f:=5) (p:=10) Tryz.underlying3 (by kernel_rfl) hf;obtain⟨a11,h11,_⟩:=aG (f:=5) (p:=11) Tryz.underlying3 (by kernel_rfl) hf;obtain⟨a12,h12,_⟩:=aG (f:=5) (p:=12) Tryz.underlying3 (by kernel_rfl) hf;obtain⟨a13,h13,_⟩:=aG (f:=5) (p:=13) Tryz.underlying3 (by kernel_rfl) hf;obtain⟨a14,h14,_⟩:=aG (f:=5) (p:=14) Tryz.underlying3 (by kernel_rfl) hf;obtain⟨B,d,m,h4,g1,g2,g3,g4⟩:=gl (α:=Int×Int) (ec:=fX) (K:=λa=>cP a.1/\cP a.2) (f:=5) (p:=4) Tryz.underlying30 (by rw[jC];decide) (λf cs x h=>Cq h) (by kernel_rfl) hf;rw[jC]at g3;obtain⟨a7,h7⟩:=gT (f:=5) (p:=7) Tryz.underlying4 (by kernel_rfl) hf;obtain⟨a8,h8⟩:=gT (f:=5) (p:=8) Tryz.underlying4 (by kernel_rfl) hf;obtain⟨a15,h15⟩:=gT (f:=5) (p:=15) Tryz.underlying4 (by kernel_rfl) hf;refine⟨(⟨a0,a1,a2,a3,m,a5,a6,a7,a8,a9,a10,a11,a12,a13,a14,a15⟩,(B,d)),⟨g3,g1⟩,λp u hu=> ?_⟩
 match p,hu with
 |0,hu=>cases hu;exact h0
 |1,hu=>cases hu;exact h1
 |2,hu=>cases hu;exact h2
 |3,hu=>cases hu;exact h3
 |4,hu=>cases hu;exact h4
 |5,hu=>cases hu;exact h5
 |6,hu=>cases hu;exact h6
 |7,hu=>cases hu;exact h7
 |8,hu=>cases hu;exact h8
 |9,hu=>cases hu;exact h9
 |10,hu=>cases hu;exact h10
 |11,hu=>cases hu;exact h11
 |12,hu=>cases hu;exact h12
 |13,hu=>cases hu;exact h13
 |14,hu=>cases hu;exact h14
 |15,hu=>cases hu;exact h15
 |p+16,hu=>simp[oz,nA]at hu
theorem Ov{H:Type}{enc:TypeId×Value->H}{w:World}{base:Nat}{spare:Nat->Bool}{held:Bool}{fuel:Nat}{cs:List Value}{x:DataW H×List MemPlace}(hf:DataW.trod enc Tryz.prog w base spare held fuel 27 cs=some x):∃c:cZ,(dV w c/\lk c)/\∀(p:Nat) u,(cD c)[p]? =some u->cs[p]? =some u:=by
 obtain⟨a0,h0,_⟩:=aG (f:=5) (p:=0) Tryz.underlying3 (by kernel_rfl) hf;obtain⟨a5,h5,_⟩:=aG (f:=5) (p:=5) Tryz.underlying3 (by kernel_rfl) hf;obtain⟨A1,k1,l1,h1,b1,c1,s1,_⟩:=gl (α:=Int) (ec:=Cs.encI) (K:=cP) (f:=5) (p:=1) Tryz.underlying22 (by rw[fy];decide) (λf cs x h=>wH h) (by kernel_rfl) hf;rw[fy]at s1;obtain⟨A2,k2,l2,h2,b2,c2,s2,_⟩:=gl (α:=Un) (ec:=lp) (K:=λ_=>True) (f:=5) (p:=2) Tryz.underlying23 (by rw[ye];decide) (λf cs x h=>RW h) (by kernel_rfl) hf;rw[ye]at s2;obtain⟨A3,k3,l3,h3,b3,c3,s3,_⟩:=gl (α:=zY) (ec:=ln) (K:=λ_=>True) (f:=5) (p:=3) Tryz.underlying24 (by rw[ya];decide) (λf cs x h=>Qk h) (by kernel_rfl) hf;rw[ya]at s3;obtain⟨A4,k4,l4,h4,b4,c4,s4,q4⟩:=gl (α:=Kl) (ec:=oz) (K:=λa=>SL w 2 fX a.2.1 a.1.start/\a.1.start.length<=9223372036854775807) (f:=5) (p:=4) Tryz.underlying25 (by rw[yd];decide) (λf cs x h=>QX h) (by kernel_rfl) hf;rw[yd]at s4;obtain⟨A6,k6,l6,h6,b6,c6,s6,_⟩:=gl (α:=Int) (ec:=Cs.encI) (K:=cP) (f:=5) (p:=6) Tryz.underlying22 (by rw[fy];decide) (λf cs x h=>wH h) (by kernel_rfl) hf;rw[fy]at s6;refine⟨⟨a0,l1,l2,l3,l4,a5,l6,A1,k1,A2,k2,A3,k3,A4,k4,A6,k6⟩,⟨⟨s1,s2,s3,s4,s6,λk hk=>(q4 k hk).1⟩,⟨b1,b2,b3,b4,b6,c2,λk hk=>(q4 k hk).2⟩⟩,λp u hu=> ?_⟩
 match p,hu with
 |0,hu=>cases hu;exact h0
 |1,hu=>cases hu;exact h1
 |2,hu=>cases hu;exact h2
 |3,hu=>cases hu;exact h3
 |4,hu=>cases hu;exact h4
 |5,hu=>cases hu;exact h5
 |6,hu=>cases hu;exact h6
 |p+7,hu=>simp[cD]at hu
theorem Jw{H:Type}{enc:TypeId×Value->H}{w:World}{base:Nat}{spare:Nat->Bool}{held:Bool}{v:Value}{d:DataW H}{ps:List MemPlace}{r:Reach}{b0:Nat}(hv:Value.okWide Tryz.prog w r b0 27 v)(h:DataW.Trod enc Tryz.prog w base spare held 27 v d ps):
  ∃c:cZ,v= .agg (cD c).toArray/\dV w c/\lk c:=by
 obtain⟨cs,rfl,hsz⟩:=okWide_struct Tryz.underlying27 hv;rw[Hs]at hsz;obtain⟨fuel,hf⟩:=h;obtain⟨c,⟨ha,hz⟩,hcs⟩:=Ov hf;refine⟨c, ?_,ha,hz⟩;congr 1;apply M5;show cs.toList=cD c;apply rC;intro i;by_cases hi:i<7
 ·obtain⟨u,hu⟩:∃u,(cD c)[i]? =some u:=⟨_,eH (by show i<7;exact hi)⟩
  rw[hu];exact hcs i u hu
 ·rw[pz (by simp;omega),pz (by show 7<=i;omega)]
end Go.Proofs.YtkmbmfengcdmoaaGreatDoor
namespace Go.Proofs.YtkmbmfengcdmoaaGreatDoor
open Go.RowKit Go.ay Go.Cs Go.Opn Go.ChangeShapes Go.WideShapes Go.Deep Go.OpenShut

theorem yc:Tryz.prog.cellsOf 44=42:=by kernel_rfl
structure Sr (w:World) (a:xE):Prop where
 x:a.x.Ok
 e:a.e.Ok
 l:SD w a.l
 n:cP a.after/\cP a.writes/\cP a.bytes
instance:Inhabited xE:=⟨⟨0,⟨0,0,0,0,0,false⟩,default,⟨0,0,0,⟨#[]⟩,⟨#[]⟩,0,0⟩,0,0,0⟩⟩
set_option maxHeartbeats 1000000 in
theorem Od{H:Type}{enc:TypeId×Value->H}{w:World}{base:Nat}{spare:Nat->Bool}{held:Bool}{fuel:Nat}{cs:List Value}{x:DataW H×List MemPlace}(hf:DataW.trod enc Tryz.prog w base spare held fuel 44 cs=some x):
  ∃a:xE,Sr w a/\∀(p:Nat) u,(cM a)[p]? =some u->cs[p]? =some u:=by
 obtain⟨a0,h0,w0⟩:=aG (f:=6) (p:=0) Tryz.underlying3 (by kernel_rfl) hf;obtain⟨a1,h1,w1⟩:=aG (f:=6) (p:=1) Tryz.underlying3 (by kernel_rfl) hf;obtain⟨a2,h2,w2⟩:=aG (f:=6) (p:=2) Tryz.underlying3 (by kernel_rfl) hf;obtain⟨a3,h3,w3⟩:=aG (f:=6) (p:=3) Tryz.underlying3 (by kernel_rfl) hf;obtain⟨a4,h4,w4⟩:=aG (f:=6) (p:=4) Tryz.underlying3 (by kernel_rfl) hf;obtain⟨a5,h5,w5⟩:=aG (f:=6) (p:=5) Tryz.underlying3 (by kernel_rfl) hf;obtain⟨a6,h6⟩:=gT (f:=6) (p:=6) Tryz.underlying4 (by kernel_rfl) hf;obtain⟨a7,h7,w7⟩:=aG (f:=6) (p:=7) Tryz.underlying3 (by kernel_rfl) hf;obtain⟨a8,h8,w8⟩:=aG (f:=6) (p:=8) Tryz.underlying3 (by kernel_rfl) hf;obtain⟨a9,h9,w9⟩:=aG (f:=6) (p:=9) Tryz.underlying3 (by kernel_rfl) hf;obtain⟨a10,h10,w10⟩:=aG (f:=6) (p:=10) Tryz.underlying3 (by kernel_rfl) hf;obtain⟨a11,h11,w11⟩:=aG (f:=6) (p:=11) Tryz.underlying3 (by kernel_rfl) hf;obtain⟨a12,h12,w12⟩:=aG (f:=6) (p:=12) Tryz.underlying3 (by kernel_rfl) hf;obtain⟨A,c,l,h13,e1,e2,e3,e4⟩:=gl (α:=Int) (ec:=Cs.encI) (K:=cP) (f:=6) (p:=13) Tryz.underlying22 (by rw[fy];decide) (λf cs x h=>wH h) (by kernel_rfl) hf;rw[fy]at e3;obtain⟨a14,h14,w14⟩:=aG (f:=6) (p:=14) Tryz.underlying3 (by kernel_rfl) hf;obtain⟨a15,h15,w15⟩:=aG (f:=6) (p:=15) Tryz.underlying3 (by kernel_rfl) hf;obtain⟨a16,h16,w16⟩:=aG (f:=6) (p:=16) Tryz.underlying3 (by kernel_rfl) hf;obtain⟨a17,h17,w17⟩:=aG (f:=6) (p:=17) Tryz.underlying3 (by kernel_rfl) hf;obtain⟨B,d,m,h18,g1,g2,g3,g4⟩:=gl (α:=Int×Int) (ec:=fX) (K:=λa=>cP a.1/\cP a.2) (f:=6) (p:=18) Tryz.underlying30 (by rw[jC];decide) (λf cs x h=>Cq h) (by kernel_rfl) hf;rw[jC]at g3;obtain⟨a19,h19,w19⟩:=aG (f:=6) (p:=19) Tryz.underlying3 (by kernel_rfl) hf;obtain⟨a20,h20,w20⟩:=aG (f:=6) (p:=20) Tryz.underlying3 (by kernel_rfl) hf;obtain⟨a21,h21⟩:=gT (f:=6) (p:=21) Tryz.underlying4 (by kernel_rfl) hf;obtain⟨a22,h22⟩:=gT (f:=6) (p:=22) Tryz.underlying4 (by kernel_rfl) hf;obtain⟨a23,h23,w23⟩:=aG (f:=6) (p:=23) Tryz.underlying3 (by kernel_rfl) hf;obtain⟨a24,h24,w24⟩:=aG (f:=6) (p:=24) Tryz.underlying3 (by kernel_rfl) hf;obtain⟨a25,h25,w25⟩:=aG (f:=6) (p:=25) Tryz.underlying3 (by kernel_rfl) hf;obtain⟨a26,h26,w26⟩:=aG (f:=6) (p:=26) Tryz.underlying3 (by kernel_rfl) hf;obtain⟨a27,h27,w27⟩:=aG (f:=6) (p:=27) Tryz.underlying3 (by kernel_rfl) hf;obtain⟨a28,h28,w28⟩:=aG (f:=6) (p:=28) Tryz.underlying3 (by kernel_rfl) hf;obtain⟨a29,h29⟩:=gT (f:=6) (p:=29) Tryz.underlying4 (by kernel_rfl) hf;obtain⟨a30,h30,w30⟩:=aG (f:=6) (p:=30) Tryz.underlying3 (by kernel_rfl) hf;obtain⟨a31,h31,w31⟩:=gn (f:=6) (p:=31) Tryz.underlying9 (by kernel_rfl) hf;obtain⟨a32,h32,w32⟩:=aG (f:=6) (p:=32) Tryz.underlying3 (by kernel_rfl) hf;obtain⟨a33,h33,w33⟩:=aG (f:=6) (p:=33) Tryz.underlying3 (by kernel_rfl) hf;obtain⟨a34,h34,w34⟩:=aG (f:=6) (p:=34) Tryz.underlying3 (by kernel_rfl) hf;obtain⟨a35,h35,w35⟩:=gn (f:=6) (p:=35) Tryz.underlying9 (by kernel_rfl) hf;obtain⟨a36,h36,w36⟩:=gn (f:=6) (p:=36) Tryz.underlying9 (by kernel_rfl) hf;obtain⟨a37,h37,w37⟩:=aG (f:=6) (p:=37) Tryz.underlying3 (by kernel_rfl) hf;obtain⟨a38,h38,w38⟩:=aG (f:=6) (p:=38) Tryz.underlying3 (by kernel_rfl) hf;obtain⟨a39,h39,w39⟩:=aG (f:=6) (p:=39) Tryz.underlying3 (by kernel_rfl) hf;obtain⟨a40,h40,w40⟩:=aG (f:=6) (p:=40) Tryz.underlying3 (by kernel_rfl) hf;obtain⟨a41,h41,w41⟩:=aG (f:=6) (p:=41) Tryz.underlying3 (by kernel_rfl) hf;unfold maxLen at w35 w36;refine⟨⟨a0,⟨a1,a2,a3,a4,a5,a6⟩,(⟨a7,a8,a9,a10,a11,⟨a12,l,⟨a14,a15,a16,a17,m,a19,a20,a21,a22,a23,a24,a25,a26,a27,a28,a29⟩,a30⟩,a31⟩,⟨A,c,B,d⟩),⟨a32,a33,a34,a35,a36,a37,a38⟩,a39,a40,a41⟩,
  ⟨⟨(bounds_i64 w1).1,(bounds_i64 w1).2,(bounds_i64 w2).1,(bounds_i64 w2).2,(bounds_i64 w3).1,(bounds_i64 w3).2,(bounds_i64 w4).1,(bounds_i64 w4).2,(bounds_i64 w5).1,(bounds_i64 w5).2⟩,
   ⟨(bounds_i64 w32).1,(bounds_i64 w32).2,(bounds_i64 w33).1,(bounds_i64 w33).2,(bounds_i64 w34).1,(bounds_i64 w34).2,(bounds_i64 w37).1,(bounds_i64 w37).2,(bounds_i64 w38).1,(bounds_i64 w38).2,w35,w36⟩,
   ⟨⟨e3,g3⟩,⟨⟨bounds_i64 w7,bounds_i64 w8,bounds_i64 w9,bounds_i64 w10,bounds_i64 w11⟩,Jo ⟨bounds_i64 w12,bounds_i64 w30⟩ e1 e4 g1 g4 ?_ ?_⟩⟩,⟨bounds_i64 w39,bounds_i64 w40,bounds_i64 w41⟩⟩,λp u hu=> ?_⟩
 ·intro n hn;simp only[mT.front,lC,DR,DW]at hn;rcases hn with rfl|rfl|rfl|rfl|rfl|rfl<;>(apply bounds_i64;assumption)
 ·intro n hn;simp only[mT.back,lC,DR,DW]at hn;rcases hn with rfl|rfl|rfl|rfl|rfl|rfl<;>(apply bounds_i64;assumption)
 match p,hu with
 |0,hu=>cases hu;exact h0
 |1,hu=>cases hu;exact h1
 |2,hu=>cases hu;exact h2
 |3,hu=>cases hu;exact h3
 |4,hu=>cases hu;exact h4
 |5,hu=>cases hu;exact h5
 |6,hu=>cases hu;exact h6
 |7,hu=>cases hu;exact h7
 |8,hu=>cases hu;exact h8
 |9,hu=>cases hu;exact h9
 |10,hu=>cases hu;exact h10
 |11,hu=>cases hu;exact h11
 |12,hu=>cases hu;exact h12
 |13,hu=>cases hu;exact h13
 |14,hu=>cases hu;exact h14
 |15,hu=>cases hu;exact h15
 |16,hu=>cases hu;exact h16
 |17,hu=>cases hu;exact h17
 |18,hu=>cases hu;exact h18
 |19,hu=>cases hu;exact h19
 |20,hu=>cases hu;exact h20
 |21,hu=>cases hu;exact h21
 |22,hu=>cases hu;exact h22
 |23,hu=>cases hu;exact h23
 |24,hu=>cases hu;exact h24
 |25,hu=>cases hu;exact h25
 |26,hu=>cases hu;exact h26
 |27,hu=>cases hu;exact h27
 |28,hu=>cases hu;exact h28
 |29,hu=>cases hu;exact h29
 |30,hu=>cases hu;exact h30
 |31,hu=>cases hu;exact h31
 |32,hu=>cases hu;exact h32
 |33,hu=>cases hu;exact h33
 |34,hu=>cases hu;exact h34
 |35,hu=>cases hu;exact h35
 |36,hu=>cases hu;exact h36
 |37,hu=>cases hu;exact h37
 |38,hu=>cases hu;exact h38
 |39,hu=>cases hu;exact h39
 |40,hu=>cases hu;exact h40
 |41,hu=>cases hu;exact h41
 |p+42,hu=>simp[cM,bU,fq,jL,aK]at hu
theorem yY{H:Type}{enc:TypeId×Value->H}{w:World}{base:Nat}{spare:Nat->Bool}{held:Bool}{v:Value}{d:DataW H}{ps:List MemPlace}{r:Reach}{b0:Nat}(hv:Value.okWide Tryz.prog w r b0 44 v)(h:DataW.Trod enc Tryz.prog w base spare held 44 v d ps):
  ∃x:xE,v= .agg (cM x).toArray/\Sr w x:=by
 obtain⟨cs,rfl,hsz⟩:=okWide_struct Tryz.underlying44 hv;rw[yc]at hsz;obtain⟨fuel,hf⟩:=h;obtain⟨a,ha,hcs⟩:=Od hf;refine⟨a, ?_,ha⟩;congr 1;apply M5;show cs.toList=cM a;apply rC;intro i;by_cases hi:i<42
 ·obtain⟨u,hu⟩:∃u,(cM a)[i]? =some u:=⟨_,eH (by rw[qa];exact hi)⟩
  rw[hu];exact hcs i u hu
 ·rw[pz (by simp;omega),pz (by rw[qa];omega)]
theorem On:Tryz.prog.bytesOf 3=8:=by kernel_rfl
theorem open_ints{H:Type}{enc:TypeId×Value->H}{w:World}{base:Nat}{spare:Nat->Bool}{held:Bool}{v:Value}{d:DataW H}{ps:List MemPlace}{r:Reach}{b0:Nat}(hv:Value.okWide Tryz.prog w r b0 22 v)(h:DataW.Trod enc Tryz.prog w base spare held 22 v d ps):
  ∃(A:Option Addr) (c:Nat) (l:List Int),v= .slice A l.length c/\l.length<=9223372036854775807/\l.length<=c/\SL w 1 Cs.encI A l/\∀B,(∀elems spare,d= .slice elems spare->(elems.length+spare.length)*Tryz.prog.bytesOf 3<=B)->l.length*8<=B:=by
 obtain⟨f,x,hf⟩:=OY Tryz.underlying22 hv h;obtain⟨A,c,l,e1,e2,e3,e4,_⟩:=vu (α:=Int) (ec:=Cs.encI) (K:=cP) Tryz.underlying22 (by rw[fy];decide) (λf cs x h=>wH h) hf;rw[fy]at e4;refine⟨A,c,l,e1,e2,e3,e4,λB hB=> ?_⟩;obtain⟨fuel,hf2⟩:=h;rcases open_slice Tryz.underlying22 hf2 with⟨h0,_⟩|⟨a,len,cap,m,n,D,Pl,hcs,_,_,_,_,hx,_⟩
 ·rw[e1]at h0;have h1:Value.slice A l.length c= .slice none 0 0:=by simpa[Value.cells]using h0
  injection h1 with _ h1 _;omega
 ·rw[e1]at hcs;have h1:Value.slice A l.length c= .slice (some a) len cap:=by simpa[Value.cells]using hcs
  injection h1 with _ h1 _;have h2:=hB _ _ (congrArg Prod.fst hx);rw[On,rm,List.length_range]at h2;omega
end Go.Proofs.YtkmbmfengcdmoaaGreatDoor
namespace Go.Proofs.YtkmbmfengcdmoaaGreatDoor
open Go.RowKit Go.ay Go.Cs Go.Jn Go.Dk Go.Ho Go.Opn Go.Cv

theorem ru(c:cZ)(own other:Int)(sA:Option Addr)(sc:Nat)(cF:List Int)(a b:xE)(ch:aV)(W:World)(hT:cB W)(hE:gK W)(hc:dV W c)(hz:lk c)(hs:SL W 1 Cs.encI sA cF)(hs8:cF.length*8<=140737488355328)
  (ho:(Lit.int .u8 own).wf=true) (hq:(Lit.int .u8 other).wf=true) (ha:Sr W a) (hb:Sr W b) (hch:ch.Ok):
  Calls Tryz.prog 3 #[.agg (cD c).toArray, .int .u8 own, .int .u8 other, .slice sA cF.length sc, .agg (cM a).toArray, .agg (cM b).toArray, .agg (aK ch).toArray] W λe w'=>e= .returned (.bool true)/\Below W.heap.size W w':=by
 have h1:0<=own/\own<=255:=by
  simp[Lit.wf]at ho;have e1:IntKind.u8.min=0:=by decide
  have e2:IntKind.u8.max=255:=by decide
  omega
 have h2:0<=other/\other<=255:=by
  simp[Lit.wf]at hq;have e1:IntKind.u8.min=0:=by decide
  have e2:IntKind.u8.max=255:=by decide
  omega
 exact AF c own other sA sc cF a b ch W hT hE hc hz hs hs8 h1.1 h1.2 h2.1 h2.2 ha.x hb.x hch
end Go.Proofs.YtkmbmfengcdmoaaGreatDoor
namespace Go.PostB
open Go Go.RowKit Go.WideShapes Go.ChangeShapes Go.ChangeAt
variable {H:Type} {enc:TypeId×Value->H} {P:Program}

theorem nn(hl:laidOutB P=true){W W':World}(hb:Below W.heap.size W W'):∀ {ts:List TypeId} {vs:List Value} {ds:List (DataW H)} {p:List MemPlace},
  (∀t∈ts,P.readableRec t=true/\t<P.types.size)->DataW.TrodAll enc P W 0 (λ_=>true) true ts vs ds p->(∀x∈p,x.block<W.heap.size)->
  DataW.TrodAll enc P W' 0 (λb=>decide (b<W.heap.size)) true ts vs ds p
 | [],vs,ds,p,_,h,_=>by
  obtain⟨rfl,rfl,rfl⟩:=trodAll_nil h;exact trodAll_mk0
 |t::ts,vs,ds,p,hts,h,hlt=>by
  obtain⟨v0,vs0,d0,ds0,p0,q0,rfl,rfl,rfl,h0,r0⟩:=trodAll_cons h;have ht:=hts t (by simp);exact trodAll_cons_mk (Below.trod hl ht.1 ht.2 h0 hb (λx hx=>hlt x (by simp[hx]))) (nn hl hb (λt ht=>hts t (by simp[ht])) r0 (λx hx=>hlt x (by simp[hx])))

theorem FL{f:Func}{s:ChangeSpec}{W W':World}{args:Array Value}{ds gs:List (DataW H)}{before:List MemPlace}{tb:TypeId}(hl:laidOutB P=true)
  (hts:f.params.toList.all (λt=>P.readableRec t&&decide (t<P.types.size))=true) (hr:f.resultTypes= #[tb]) (htb:P.underlying tb=some .bool)
  (hW:DataW.Whole enc P f.params.toList s.vars false W args.toList ds gs before) (hv:s.vars= [])
  (hres:(s.fn H (ds++gs)).results= [.lit (.bool true)]) (hargs:(s.fn H (ds++gs)).args=ds) (hvars:(s.fn H (ds++gs)).vars= []) (hb:Below W.heap.size W W'):
  s.post enc P f false true false false W args (.bool true) W':=by
 have hlt:∀p∈before,p.block<W.heap.size:=λp hp=>hW.lt p hp
 have hW0:=hW;obtain⟨p,q,hA,hV,rfl,_,_⟩:=hW;refine⟨ds,gs,p++q,[],p,[],hW0, ?_, ?_, ?_,hb.frame _,λh=>by cases h⟩
 ·rw[hres,hr];exact trodAll_cons_mk (shut_bool htb _) trodAll_mk0
 ·rw[hargs];refine nn hl hb (λt ht=> ?_) hA (λx hx=>hlt x (by simp[hx]))
  have:=GJ.1 hts t ht;simpa using this
 ·rw[hvars,hv];exact rfl
end Go.PostB
