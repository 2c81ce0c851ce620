/- What is agreed on among the letters that were sent by a day. No condition. Patches of contracts and what is in force, as plain data. No condition. -/
import Derived.Test.YtekfoaenomgjgaaGreatDoorCvH
import Derived.Test.YtekfoaenomgjgaaGreatDoorYA
set_option maxRecDepth 100000
set_option linter.all false
namespace Go.Cv
open Go Go.Cs
def clAt(c:Con)(i:Nat):Bool:=match c.cls[i]? with|some k=>bq c i k|none=>true
def limB(c:Con):Bool:=decide (c.parties<=12)&&(decide (c.days<=2000)&&(decide (c.holders.length<=12)&&(decide (c.units.length<=20)&&(decide (c.acts.length<=60)&&decide (c.cls.length<=400)))))
def dx(c:Con):Int:=if limB c then(if bJ c&&(List.range c.cls.length).all (clAt c)then 0 else 1)else 3
end Go.Cv
namespace Go.Proofs.YtekfoaenomgjgaaGreatDoor
open Go.RowKit Go.W32 Go.Blk Go.Cs Go.Lib Go.Opn Go.Mg Go.Cv

def VcPost(c:ConM)(W:World)(e:Ending)(w':World):Prop:=(∃i:Int,e= .returned (.tuple #[.int .i64 (dx c.con), .int .i64 i]))/\Below W.heap.size W w'
set_option maxHeartbeats 4000000 in
theorem dJ(c:ConM)(W:World)(hc:ConAt W c)(hz:ConSz c):Calls Tryz.prog 52 #[.agg (ak c).toArray] W (VcPost c W):=by
 obtain⟨R,eR⟩:∃R,R=VcPost c W:=⟨_,rfl⟩
 rw[<-eR]
 have FIN:Hid (∀w' v i,v=dx c.con->Below W.heap.size W w'->R (.returned (.tuple #[.int .i64 v, .int .i64 i])) w'):=h_ fun w' v i h hb=>by rw[eR,h];exact⟨⟨i,rfl⟩,hb⟩
 clear eR
 have HLB:Hid (limB c.con=(decide (c.parties<=12)&&(decide (c.days<=2000)&&(decide (c.holders.length<=12)&&(decide (c.units.length<=20)&&(decide (c.acts.length<=60)&&decide (c.kls.length<=400))))))):=h_ (by unfold limB ConM.con;simp only[List.length_map])
 obtain⟨W1,cs,hx⟩:=boxC W c
 obtain⟨k0,k1,k2,k3,k4,k5,k6⟩:=ConC.of (T:=27) (b:=W.heap.size) (w:=W1) (c:=c) (by rw[<-hx.cs];exact hx.row)
 have HK:Hid (∀w',Below W1.heap.size W1 w'->ConC w' W.heap.size c/\w'.rangeAt W.heap.size 0 cs/\ConAt w' c):=h_ fun w' hb=>⟨ConC.of (T:=27) (by rw[<-hx.cs];exact hx.row.below hb hx.row.lt),(hx.row.below hb hx.row.lt).rg,hc.below (hx.below.trans (hb.mono hx.below.size)) (Nat.le_refl _)⟩
 have E1:=h_ hx.e
 have HB1:=h_ hx.below
 have HI:=h_ (aK cs (by rw[hx.cs];rfl))
 have CF0:=fun(hl:ConLim c)=>framed_any c W1 (HK.out W1 (Below.refl _ _)).2.2 hl hz
 have CC0:=fun(hl:ConLim c) (i:Nat) (k:Kl) (hk:c.kls[i]? =some k) (w':World) (hb:Below W1.heap.size W1 w')=>clause_any c i k w' (HK.out w' hb).2.2 hl hk (hz.st k (List.mem_of_getElem? hk))
 rw[<-hx.cs]at CF0⊢
 simp only[<-hx.cs]at CC0
 have CF:=h_ CF0
 have CC:=h_ CC0
 clear hx hc hz k6 CF0 CC0
 by_cases h1:c.parties<=12
 rotate_left
 ·have HF:=h_ (FIN.out W1 3 (-1) (by unfold dx;rw[show limB c.con=false by rw[HLB.out];simp[h1]];rfl) HB1.out)
  clear FIN
  go_enter Tryz.func52,Tryz.ntmps52
  go_wp2_with (simp only[E1.out])
  exact HF.out
 by_cases h2:c.days<=2000
 rotate_left
 ·have HF:=h_ (FIN.out W1 3 (-1) (by unfold dx;rw[show limB c.con=false by rw[HLB.out];simp[h2]];rfl) HB1.out)
  clear FIN
  go_enter Tryz.func52,Tryz.ntmps52
  go_wp2_with (simp only[E1.out])
  exact HF.out
 by_cases h3:c.holders.length<=12
 rotate_left
 ·have HF:=h_ (FIN.out W1 3 (-1) (by unfold dx;rw[show limB c.con=false by rw[HLB.out];simp[h3]];rfl) HB1.out)
  clear FIN
  go_enter Tryz.func52,Tryz.ntmps52
  go_wp2_with (simp only[E1.out])
  exact HF.out
 by_cases h4:c.units.length<=20
 rotate_left
 ·have HF:=h_ (FIN.out W1 3 (-1) (by unfold dx;rw[show limB c.con=false by rw[HLB.out];simp[h4]];rfl) HB1.out)
  clear FIN
  go_enter Tryz.func52,Tryz.ntmps52
  go_wp2_with (simp only[E1.out])
  exact HF.out
 by_cases h5:c.acts.length<=60
 rotate_left
 ·have HF:=h_ (FIN.out W1 3 (-1) (by unfold dx;rw[show limB c.con=false by rw[HLB.out];simp[h5]];rfl) HB1.out)
  clear FIN
  go_enter Tryz.func52,Tryz.ntmps52
  go_wp2_with (simp only[E1.out])
  exact HF.out
 by_cases h6:c.kls.length<=400
 rotate_left
 ·have HF:=h_ (FIN.out W1 3 (-1) (by unfold dx;rw[show limB c.con=false by rw[HLB.out];simp[h6]];rfl) HB1.out)
  clear FIN
  go_enter Tryz.func52,Tryz.ntmps52
  go_wp2_with (simp only[E1.out])
  exact HF.out
 have hlim:ConLim c:=⟨h1,h3,h4,h5,h6⟩
 have HE:Hid (dx c.con=if bJ c.con&&(List.range c.kls.length).all (clAt c.con)then 0 else 1):=h_ (by
  unfold dx
  rw[show limB c.con=true by rw[HLB.out,decide_eq_true h1,decide_eq_true h2,decide_eq_true h3,decide_eq_true h4,decide_eq_true h5,decide_eq_true h6];rfl,show c.con.cls.length=c.kls.length from List.length_map _]
  rfl)
 have CF1:=h_ (CF.out hlim)
 have CC1:Hid (∀(i:Nat) k,c.kls[i]? =some k->∀w',Below W1.heap.size W1 w'->Calls Tryz.prog 86 #[.agg cs.toArray, .int .i64 (i:Int)] w' fun e w''=>e= .returned (.bool (clAt c.con i))/\Below w'.heap.size w' w''):=h_ fun i k hk w' hb=>by
  have h:=CC.out hlim i k hk w' hb
  have e:clAt c.con i=bq c.con i k.1:=by
   unfold clAt
   have:c.con.cls[i]? =some k.1:=by show(c.kls.map Prod.fst)[i]? =_;rw[List.getElem?_map,hk];rfl
   rw[this]
  rw[e];exact h
 obtain⟨FB,eFB⟩:∃FB,FB=bJ c.con:=⟨_,rfl⟩
 rw[<-eFB]at CF1 HE
 obtain⟨ca,eca⟩:∃ca,ca=clAt c.con:=⟨_,rfl⟩
 rw[<-eca]at CC1 HE
 have HMC:=h_ (HK.out W1 (Below.refl _ _)).2.1
 have H6:=h_ h6
 have i1:decide ((12:Int)<c.parties)=false:=decide_eq_false (by omega)
 have i2:decide ((2000:Int)<c.days)=false:=decide_eq_false (by omega)
 have i3:decide ((12:Int)<(c.holders.length:Int))=false:=decide_eq_false (by omega)
 have i4:decide ((20:Int)<(c.units.length:Int))=false:=decide_eq_false (by omega)
 have i5:decide ((60:Int)<(c.acts.length:Int))=false:=decide_eq_false (by omega)
 have i6:decide ((400:Int)<(c.kls.length:Int))=false:=decide_eq_false (by omega)
 clear CF CC eFB eca hlim HLB
 go_enter Tryz.func52,Tryz.ntmps52
 go_wp2_with (first
  |(simp only[E1.out])
  |(refine ae (.tmp 1) ?_;refine wpList_load_mid rfl 27 (.tmp 1) rfl W.heap.size 0 rfl cs _ HMC.out Tryz.underlying27 rfl HI.out ?_))
 refine CF1.out.mono ?_
 rintro e w2 ⟨rfl,hb2⟩
 obtain⟨⟨k0,k1,k2,k3,k4,k5,k6⟩,_,_⟩:=HK.out w2 hb2
 have HB2:=h_ hb2
 clear hb2 CF1 HMC k0 k1 k2 k3 k5 k6
 cases FB with
 |false=>
  have HF:=h_ (FIN.out w2 1 (-1) (by rw[HE.out];rfl) (HB1.out.trans (HB2.out.mono HB1.out.size)))
  clear FIN HE
  go_wp2_with fail
  exact HF.out
 |true=>
 have HE2:Hid (dx c.con=if(List.range c.kls.length).all ca then 0 else 1):=h_ (by rw[HE.out];rfl)
 clear HE
 go_wp2_with fail
 go_loopw [43] (fun v wr=> ∃k:Nat,v= .int .i64 (k:Int)/\k<=c.kls.length/\Hid ((List.range k).all ca=true)/\Below W1.heap.size W1 wr) (fun v _=>(c.kls.length:Int).toNat- (RowKit.intOf v).toNat)
 case atStart=>exact⟨0,rfl,Nat.zero_le _,h_ rfl,HB2.out⟩
 case round=>
  obtain⟨k,rfl,hk,hal,hbw⟩:=hrel
  have hkb:(k:Int)<=400:=by have:=H6.out;omega
  rcases Nat.lt_or_eq_of_le hk with hkl|hkl
  ·have hki:(k:Int)<(c.kls.length:Int):=by omega
   obtain⟨x,ex⟩:∃x,c.kls[k]? =some x:=⟨_,List.getElem?_eq_getElem hkl⟩
   have HMC:=h_ (HK.out wr hbw).2.1
   have CK:=h_ (CC1.out k x ex wr hbw)
   have HBW:=h_ hbw
   obtain⟨v,ev⟩:∃v,v=ca k:=⟨_,rfl⟩
   rw[<-ev]at CK
   have EV:=h_ ev
   clear ex ev hbw hk
   go_wp2_with (refine ae (.tmp 1) ?_;refine wpList_load_mid rfl 27 (.tmp 1) rfl W.heap.size 0 rfl cs _ HMC.out Tryz.underlying27 rfl HI.out ?_)
   refine CK.out.mono ?_
   rintro e w5 ⟨rfl,hb5⟩
   have HB5:=h_ (HBW.out.trans (hb5.mono HBW.out.size))
   clear hb5 CK HMC
   cases v with
   |true=>
    go_wp2_with fail
    go_roundw
    case rel=>exact⟨k+1,rfl,hkl,h_ (dA hal.out EV.out.symm hkl),HB5.out⟩
    case measure=>simp[RowKit.intOf];omega
   |false=>
    have HF:=h_ (FIN.out w5 1 (k:Int) (by rw[HE2.out,dB hkl EV.out.symm];rfl) (HB1.out.trans (HB5.out.mono HB1.out.size)))
    clear FIN HE2
    go_wp2_with fail
    exact HF.out
  ·have hki: ¬(k:Int)<(c.kls.length:Int):=by omega
   have HF:=h_ (FIN.out wr 0 (-1) (by rw[HE2.out, <-hkl,hal.out];rfl) (HB1.out.trans (hbw.mono HB1.out.size)))
   clear FIN HE2 hal hbw hk
   go_wp2_with fail
   exact HF.out
end Go.Proofs.YtekfoaenomgjgaaGreatDoor
namespace Go.Cs
open Go Go.Mk

section
variable (D:Let->ByteArray) (parties kn:Int)
def early(l:List (Let×Hd)):List (Let×Hd):=l.filter fun r=>decide (r.1.sent<=kn)
theorem props_snoc(l:List (Let×Hd))(r:Let×Hd):bl D parties (l++ [r])=cX D parties (bl D parties l) r:=by simp[bl]
end
end Go.Cs

namespace Go.Cv
open Go Go.Cs
structure Eff where
 least:Int
 most:Int
 renewed:Bool
 spanned:Bool
def gq(e:Eff)(f:Value):List Value:= [.int .i64 e.least, .int .i64 e.most, .bool e.renewed, .bool e.spanned,f]
def daysB(e:Eff)(p:Pat):Bool:=if e.spanned then decide (1<=p.days)&&decide (p.days<=400)else p.days==0
def dw(n:Nat)(p:Pat)(e:Eff):Bool:=
 (decide (e.least<=(p.cl.length:Int))&&decide ((p.cl.length:Int)<=e.most))&&(cA (n:Int) (-1) p.cl&&((e.renewed||p.new.same Cls.zero)&&daysB e p))
def gc(k:Int):Option Eff:=
 if k=1 then some ⟨0,0,true,false⟩else if k=2 then some ⟨1,1,true,false⟩else if k=3 then some ⟨1,1,false,false⟩else if k=4 then some ⟨1,400,false,false⟩else if k=5 then some ⟨1,400,false,true⟩else none
def setAt(f:Cls->Cls)(ks:List Cls)(i:Int):List Cls:=ks.modify i.toNat f
def Cls.waive(k:Cls):Cls:= {k with waived:=true}
def Cls.span(d:Int)(k:Cls):Cls:= {k with after:=d}
def upd(p:Pat)(ks:List Cls):List Cls:=
 if p.kind=1 then ks++ [p.new]else if p.kind=2 then ks.set (p.cl.headD 0).toNat p.new else if p.kind=5 then p.cl.foldl (setAt (Cls.span p.days)) ks else p.cl.foldl (setAt Cls.waive) ks
def Con.after(c:Con)(p:Pat):Con:= {c with cls:=upd p c.cls}
def bf(c:Con)(p:Pat):Option Con:=
 match gc p.kind with
 |none=>none
 |some e=>if dx c=0/\dw c.cls.length p e=true/\ ¬(p.kind=1/\c.cls.length=400)/\dx (c.after p)=0 then some (c.after p)else none
def dp(day:Int):Con×List Int->List Pr->Con×List Int
 |s,[]=>s
 |s,a::r=>if day<a.x.day then s else dp day (match bf s.1 a.x.patch with|some c=>(c,s.2++ [a.x.number])|none=>s) r
end Go.Cv
