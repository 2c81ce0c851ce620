/- The reference of layer 30: letters until a day. No condition. The reference of layer 15: small contracts. Condition: the contract lies in memory. The reference of layer 24: equal lists of clauses. Condition: they are equal and lie in memory. The reference of layer 24: equal contracts. Condition: they are equal and lie in memory. Package version: the amendments that are known by a day are the same whether later letters are there or not. No condition. The check of the law of agreed spans: its plain values. No condition. -/
import Derived.Test.YtekfoaenomgjgaaGreatDoorYF
import Derived.Test.YtekfoaenomgjgaaGreatDoorZ5
import Derived.Test.YtekfoaenomgjgaaGreatDoorQD
import Derived.Test.YtekfoaenomgjgaaGreatDoorVeH
set_option maxRecDepth 100000
set_option linter.all false
namespace Go.Proofs.YtekfoaenomgjgaaGreatDoor
open Go.RowKit Go.W32 Go.Blk Go.Cs Go.Lib Go.Opn Go.Mg
structure UnIs (W:World) (l:List Rl) (day:Int) (k:Nat) (v:Value) (w:World):Prop where
 out:w.ownsRow W.heap.size 49 25 v (Cs.early day (l.take k)).length ((Cs.early day (l.take k)).flatMap ay)
 below:Below W.heap.size W w
theorem UnIs.grow{W w w':World}{l:List Rl}{day:Int}{k:Nat}{v:Value}(h:UnIs W l day k v w)(hb:Below w.heap.size w w'):UnIs W l day k v w':=
 ⟨owns_keep h.out fun g hg=>hb.block _ (owns_lt h.out hg).2,h.below.trans (hb.mono h.below.size)⟩
end Go.Proofs.YtekfoaenomgjgaaGreatDoor

namespace Go.Cv
open Go Go.Cs
def dY(m:Nat)(c:ConM):Bool:= !(decide (20<c.holders.length)||decide (30<c.units.length)||decide (70<c.acts.length)||decide (m<c.kls.length)||decide (100<c.off.length))&&c.kls.all fun q=>decide (q.1.start.length<=20)
end Go.Cv
namespace Go.Proofs.YtekfoaenomgjgaaGreatDoor
open Go.RowKit Go.W32 Go.Blk Go.Cs Go.Lib Go.Opn Go.Mg Go.Cv

set_option maxHeartbeats 2000000 in
theorem small15_any(m:Nat)(c:ConM)(W:World)(hc:ConAt W c)(hz:ConSz c)(hm:m<=1000):Calls Tryz.prog 7 #[.agg (ak c).toArray, .int .i64 (m:Int)] W fun e w'=>e= .returned (.bool (dY m c))/\Below W.heap.size W w':=by
 obtain⟨R,eR⟩:∃R:Ending->World->Prop,R=fun e w'=>e= .returned (.bool (dY m c))/\Below W.heap.size W w':=⟨_,rfl⟩
 rw[<-eR]
 have FIN:Hid (∀w' v,dY m c=v->Below W.heap.size W w'->R (.returned (.bool v)) w'):=h_ fun w' v h hb=>by rw[eR,h];exact⟨rfl,hb⟩
 clear eR
 obtain⟨W1,cs,hx⟩:=boxC W c
 have E1:=h_ hx.e
 have HB1:=h_ hx.below
 have f1:=hx.row.at (show cs[1]? =some (.slice c.hA c.holders.length c.hc) by rw[hx.cs];rfl)
 have f2:=hx.row.at (show cs[2]? =some (.slice c.uA c.units.length c.uc) by rw[hx.cs];rfl)
 have f3:=hx.row.at (show cs[3]? =some (.slice c.aA c.acts.length c.ac) by rw[hx.cs];rfl)
 have f4:=hx.row.at (show cs[4]? =some (.slice c.kA c.kls.length c.kc) by rw[hx.cs];rfl)
 have f6:=hx.row.at (show cs[6]? =some (.slice c.oA c.off.length c.oc) by rw[hx.cs];rfl)
 rw[<-hx.cs]
 have HK:=h_ (hc.k.below hx.below (Nat.le_refl _))
 have hkz:=hz.k
 clear hx hc hz
 go_enter Tryz.func7,Tryz.ntmps7
 by_cases h1:20<c.holders.length
 ·have q1:decide ((20:Int)<(c.holders.length:Int))=true:=decide_eq_true (by omega)
  have HF:=h_ (FIN.out W1 false (by unfold dY;simp[h1]) HB1.out)
  clear h1
  go_wp2_with (simp only[E1.out])
  exact HF.out
 have q1:decide ((20:Int)<(c.holders.length:Int))=false:=decide_eq_false (by omega)
 by_cases h2:30<c.units.length
 ·have q2:decide ((30:Int)<(c.units.length:Int))=true:=decide_eq_true (by omega)
  have HF:=h_ (FIN.out W1 false (by unfold dY;simp[h2]) HB1.out)
  clear h1 h2
  go_wp2_with (simp only[E1.out])
  exact HF.out
 have q2:decide ((30:Int)<(c.units.length:Int))=false:=decide_eq_false (by omega)
 by_cases h3:70<c.acts.length
 ·have q3:decide ((70:Int)<(c.acts.length:Int))=true:=decide_eq_true (by omega)
  have HF:=h_ (FIN.out W1 false (by unfold dY;simp[h3]) HB1.out)
  clear h1 h2 h3
  go_wp2_with (simp only[E1.out])
  exact HF.out
 have q3:decide ((70:Int)<(c.acts.length:Int))=false:=decide_eq_false (by omega)
 by_cases h4:m<c.kls.length
 ·have q4:decide (m<c.kls.length)=true:=decide_eq_true h4
  have HF:=h_ (FIN.out W1 false (by unfold dY;simp[h4]) HB1.out)
  clear h1 h2 h3 h4
  go_wp2_with (simp only[E1.out])
  exact HF.out
 have q4:decide (m<c.kls.length)=false:=decide_eq_false h4
 by_cases h5:100<c.off.length
 ·have q5:decide ((100:Int)<(c.off.length:Int))=true:=decide_eq_true (by omega)
  have HF:=h_ (FIN.out W1 false (by unfold dY;simp[h5]) HB1.out)
  clear h1 h2 h3 h4 h5
  go_wp2_with (simp only[E1.out])
  exact HF.out
 have q5:decide ((100:Int)<(c.off.length:Int))=false:=decide_eq_false (by omega)
 have HS:Hid (dY m c=c.kls.all fun q=>decide (q.1.start.length<=20)):=h_ (by unfold dY;simp[h1,h2,h3,h4,h5])
 have hk12:c.kls.length<=1000:=by omega
 clear h1 h2 h3 h4 h5
 go_wp2_with (simp only[E1.out])
 go_loopw [5] (fun v wr=> ∃(k:Nat),v= .int .i64 (k:Int)/\k<=c.kls.length/\wr=W1/\Hid ((c.kls.take k).all (fun q=>decide (q.1.start.length<=20))=true)) (fun v _=>(c.kls.length:Int).toNat- (RowKit.intOf v).toNat)
 case atStart=>exact⟨0,rfl,Nat.zero_le _,rfl,h_ (by simp)⟩
 case round=>
  obtain⟨k,rfl,hk,rfl,HA⟩:=hrel
  rcases Nat.lt_or_eq_of_le hk with hkl|hkl
  ·have hki:(k:Int)<(c.kls.length:Int):=by omega
   obtain⟨ba,oa,ea⟩:=aC HK.out (by intro e;rw[e]at hkl;simp at hkl)
   obtain⟨x,ex⟩:∃x,c.kls[k]? =some x:=⟨_,List.getElem?_eq_getElem hkl⟩
   have hsl:=HK.out
   rw[ea]at hsl f4
   have d4:=az hsl ex 4 (.slice x.2.1 x.1.start.length x.2.2) rfl
   clear hsl
   by_cases hs:x.1.start.length<=20
   ·have q6:decide ((20:Int)<(x.1.start.length:Int))=false:=decide_eq_false (by omega)
    have HM:=h_ (ct ex HA.out (decide_eq_true hs))
    clear hs ex ea
    go_wp2_with fail
    go_roundw
    case rel=>exact⟨k+1,rfl,hkl,(by first|rfl|trivial),HM⟩
    case measure=>simp[RowKit.intOf];omega
   ·have q6:decide ((20:Int)<(x.1.start.length:Int))=true:=decide_eq_true (by omega)
    have HF:=h_ (FIN.out wr false (by rw[HS.out];exact bm ex (decide_eq_false hs)) HB1.out)
    clear hs ex ea
    go_wp2_with fail
    exact HF.out
  ·have hki: ¬(k:Int)<(c.kls.length:Int):=by omega
   have HF:=h_ (FIN.out wr true (by have h:=HA.out;rw[List.take_of_length_le (by omega)]at h;rw[HS.out];exact h) HB1.out)
   go_wp2_with fail
   exact HF.out
end Go.Proofs.YtekfoaenomgjgaaGreatDoor

namespace Go.Proofs.YtekfoaenomgjgaaGreatDoor
open Go.RowKit Go.W32 Go.Blk Go.Cs Go.Lib Go.Opn Go.Mg Go.Cv

end Go.Proofs.YtekfoaenomgjgaaGreatDoor

namespace Go.Proofs.YtekfoaenomgjgaaGreatDoor
open Go.RowKit Go.W32 Go.Blk Go.Cs Go.Lib Go.Opn Go.Mg Go.Cv
structure Two (n:Nat) (c d:ConM) (w:World):Prop where
 f0:w.cell? ⟨n,0,none⟩=some (.int .i64 c.parties)
 f1:w.cell? ⟨n,1,none⟩=some (.slice c.hA c.holders.length c.hc)
 f2:w.cell? ⟨n,2,none⟩=some (.slice c.uA c.units.length c.uc)
 f3:w.cell? ⟨n,3,none⟩=some (.slice c.aA c.acts.length c.ac)
 f4:w.cell? ⟨n,4,none⟩=some (.slice c.kA c.kls.length c.kc)
 f5:w.cell? ⟨n,5,none⟩=some (.int .i64 c.days)
 f6:w.cell? ⟨n,6,none⟩=some (.slice c.oA c.off.length c.oc)
 g0:w.cell? ⟨n+1,0,none⟩=some (.int .i64 c.parties)
 g1:w.cell? ⟨n+1,1,none⟩=some (.slice d.hA c.holders.length d.hc)
 g2:w.cell? ⟨n+1,2,none⟩=some (.slice d.uA c.units.length d.uc)
 g3:w.cell? ⟨n+1,3,none⟩=some (.slice d.aA c.acts.length d.ac)
 g4:w.cell? ⟨n+1,4,none⟩=some (.slice d.kA c.kls.length d.kc)
 g5:w.cell? ⟨n+1,5,none⟩=some (.int .i64 c.days)
 g6:w.cell? ⟨n+1,6,none⟩=some (.slice d.oA c.off.length d.oc)
theorem Two.grow{n:Nat}{c d:ConM}{w w':World}(hT:Two n c d w)(hb:Below w.heap.size w w'):Two n c d w':=
 ⟨ax hT.f0 hb,ax hT.f1 hb,ax hT.f2 hb,ax hT.f3 hb,ax hT.f4 hb,ax hT.f5 hb,ax hT.f6 hb,ax hT.g0 hb,ax hT.g1 hb,ax hT.g2 hb,ax hT.g3 hb,ax hT.g4 hb,ax hT.g5 hb,ax hT.g6 hb⟩
end Go.Proofs.YtekfoaenomgjgaaGreatDoor

namespace Go.Proofs.YtekfoaenomgjgaaGreatDoor
open Go.RowKit Go.W32 Go.Blk Go.Cs Go.Lib Go.Opn Go.Mg Go.Cv

theorem pls_fst(l:List (Pr×Hd)):(pls l).map (·.1)=l:=by
 unfold pls
 rw[List.map_map]
 exact(List.map_congr_left fun _ _=>rfl).trans (List.zipIdx_map_fst 0 l)
theorem known_map(kn:Int)(pl:List Pl):(bi kn pl).map Prod.fst=((pl.map (·.1)).map Prod.fst).filter fun q=>decide (q.known<=kn):=by
 unfold bi
 simp only[List.filter_map,List.map_map,Function.comp_def]
theorem known_perm{kn:Int}{am:List (Pr×Hd)}{pl:List Pl}(h:Ord am pl):((bi kn pl).map Prod.fst).Perm ((am.map Prod.fst).filter fun q=>decide (q.known<=kn)):=by
 rw[known_map]
 have h1:=h.1.map (·.1)
 rw[pls_fst]at h1
 exact(h1.map Prod.fst).filter _
end Go.Proofs.YtekfoaenomgjgaaGreatDoor

namespace Go.Cv
open Go Go.Cs
def spanP:Pat:=⟨5,[0],Cls.zero,5⟩
def x11:Let:=⟨1,0,1,1,2,spanP,⟨#[]⟩⟩
def y11(D:ByteArray):Let:=⟨2,1,1,1,0,Pat.zero,D⟩
def duK(a:Int):Cls:=⟨1,0,0,1,[],a,0,false,true, -1, -1,0,1, -1, -1,false⟩
def duC(a:Int):Con:=⟨2,[0,1],[],[⟨1,0,0, -1, -1,0,1⟩],[duK a],6,[]⟩
theorem cnt_x(k:Int):aQ k 2 x11=decide (k=1):=by
 by_cases hk:k=1
 ·subst hk
  unfold aQ Let.formed Let.base
  simp[x11,spanP,Pat.small,Cls.zero,empty_eq]
 ·simp[aQ,x11,hk,eq_comm]
theorem cnt_y(D:ByteArray)(k:Int):aQ k 2 (y11 D)=decide (k=2):=by
 by_cases hk:k=2
 ·subst hk
  unfold aQ Let.formed Let.base
  simp[y11,Pat.same,Cls.same]
 ·simp[aQ,y11,hk,eq_comm]
theorem errC_3:dx (duC 3)=0:=by decide+kernel
theorem errC_5:dx (duC 5)=0:=by decide+kernel
theorem apply_11:bf (duC 3) spanP=some (duC 5):=by
 have e:(duC 3).after spanP=duC 5:=rfl
 show(match gc spanP.kind with|none=>none|some e=>if dx (duC 3)=0/\dw (duC 3).cls.length spanP e=true/\ ¬(spanP.kind=1/\(duC 3).cls.length=400)/\dx ((duC 3).after spanP)=0 then some ((duC 3).after spanP)else none)=_
 rw[show gc spanP.kind=some ⟨1,400,false,true⟩ from rfl]
 simp only
 rw[if_pos ⟨errC_3,by decide,by decide,by rw[e];exact errC_5⟩,e]
section
variable (D:Let->ByteArray) (h1 h2:Hd)
theorem ag_11:df D 2 [(x11,h1),(y11 (D x11),h2)]= [⟨x11,h1,D x11,1⟩]:=by
 have e1:=cnt_x
 have e2:=cnt_y (D x11)
 have e3:(y11 (D x11)).slot=(1,1)/\(y11 (D x11)).sum=D x11/\(y11 (D x11)).sent=1:=⟨rfl,rfl,rfl⟩
 have hk:cJ 2 [(((1,1),D x11),1)] ⟨x11,h1,D x11,0⟩=1:=by
  simp[cJ,db,knStep,List.range,List.range.loop,x11,Mk.get]
 have ha:dH 2 [(x11,h1),(y11 (D x11),h2)]= [(((1,1),D x11),1)]:=by
  simp[dH,dU,Mk.get,Mk.put,e1,e2,e3]
 have hp:prs D 2 [(x11,h1),(y11 (D x11),h2)]= [⟨x11,h1,D x11,1⟩]:=by
  unfold prs
  rw[ha]
  simp[bl,cX,Mk.get,Mk.put,e1,e2,bS,hk]
 have hw:wds 2 [(x11,h1),(y11 (D x11),h2)]= []:=by
  simp[wds,aN,grp,Mk.get,Mk.put,e1,e2]
 unfold df best cands
 rw[show bz 2 [(x11,h1),(y11 (D x11),h2)]=true by simp[bz],hp,hw]
 simp[isBest,isort,ins,cm,Mk.get]
end
theorem force_1(h:Hd)(D:ByteArray):dp 1 (duC 3,[]) [⟨x11,h,D,1⟩]=(duC 3,[]):=rfl
theorem force_2(h:Hd)(D:ByteArray):dp 2 (duC 3,[]) [⟨x11,h,D,1⟩]=(duC 5,[1]):=by
 show(if(2:Int)<2 then((duC 3,[]):Con×List Int)else dp 2 (match bf (duC 3) spanP with|some c=>(c,[]++ [x11.number])|none=>(duC 3,[])) [])=_
 rw[if_neg (Int.lt_irrefl 2),apply_11];rfl
end Go.Cv
namespace Go.Proofs.YtekfoaenomgjgaaGreatDoor
open Go.RowKit Go.W32 Go.Blk Go.Cs Go.Lib Go.Opn Go.Mg Go.Cv
theorem ord_one{x:Pr×Hd}{pl:List Pl}{kn:Int}(h:Ord [x] pl)(hk:x.1.known<=kn):(bi kn pl).map Prod.fst= [x.1]:=by
 have h1:=known_perm (kn:=kn) h
 rw[show([x].map Prod.fst).filter (fun q=>decide (q.known<=kn))= [x.1] by simp[hk]]at h1
 exact List.perm_singleton.1 h1
end Go.Proofs.YtekfoaenomgjgaaGreatDoor
