/- Package contract: natural, held. Condition: the contract lies in memory. -/
import Derived.Test.YtekfoaenomgjgaaGreatDoorCvQ
import Derived.Deep.LoopGhost
set_option maxRecDepth 100000
set_option linter.all false
namespace Go.Proofs.YtekfoaenomgjgaaGreatDoor
open Go.RowKit Go.W32 Go.Blk Go.Cs Go.Lib Go.Opn Go.Mg Go.Cv

theorem dA{p:Nat->Bool}{n k:Nat}(h:(List.range k).all p=true)(hp:p k=true)(_hk:k<n):(List.range (k+1)).all p=true:=by
 rw[List.range_succ,List.all_append,h]
 simp[hp]
theorem dB{p:Nat->Bool}{n k:Nat}(hk:k<n)(hp:p k=false):(List.range n).all p=false:=by
 rw[List.all_eq_false]
 exact⟨k,List.mem_range.2 hk,by simp[hp]⟩
def qvAt(us:List Un)(i:Nat):Bool:=match us[i]? with|some u=>dt us i u|none=>true
theorem qvAt_of{us:List Un}{i:Nat}{u:Un}(h:us[i]? =some u):qvAt us i=dt us i u:=by unfold qvAt;rw[h]
def QvPost(us:List Un)(W:World)(e:Ending)(w':World):Prop:=(∃i:Int,e= .returned (.tuple #[.int .i64 i, .bool (unitsV us)]))/\Below W.heap.size W w'
set_option maxHeartbeats 1000000 in
theorem qv_any(A:Option Addr)(c:Nat)(us:List Un)(W:World)(hl:SL W 5 cL A us)(hc:us.length<=c)(hn:us.length<=1000):Calls Tryz.prog 121 #[.slice A us.length c] W (QvPost us W):=by
 obtain⟨R,eR⟩:∃R,R=QvPost us W:=⟨_,rfl⟩
 rw[<-eR]
 have FIN:Hid (∀w' i v,v=(List.range us.length).all (qvAt us)->Below W.heap.size W w'->R (.returned (.tuple #[.int .i64 i, .bool v])) w'):=h_ fun w' i v h hb=>by rw[eR,h];exact⟨⟨i,rfl⟩,hb⟩
 clear eR
 have CT:Hid (∀(i:Nat) u w',us[i]? =some u->Below W.heap.size W w'->Calls Tryz.prog 161 #[.slice A us.length c, .int .i64 (i:Int)] w' fun e w''=>e= .returned (.bool (dt us i u))/\Below w'.heap.size w' w''):=h_ fun i u w' h hb=>tv_any A c us i u w' h (hl.below hb (Nat.le_refl _)) hc hn
 have HN:=h_ hn
 clear hl hc hn
 go_enter Tryz.func121,Tryz.ntmps121
 go_wp2_with fail
 go_loopw [7] (fun v wr=> ∃k:Nat,v= .int .i64 (k:Int)/\k<=us.length/\Hid ((List.range k).all (qvAt us)=true)/\Below W.heap.size W wr) (fun v _=>(us.length:Int).toNat- (RowKit.intOf v).toNat)
 case atStart=>exact⟨0,rfl,Nat.zero_le _,h_ rfl,Below.refl _ _⟩
 case round=>
  obtain⟨k,rfl,hk,hal,hbw⟩:=hrel
  have hkb:(k:Int)<=1000:=by have:=HN.out;omega
  rcases Nat.lt_or_eq_of_le hk with hkl|hkl
  ·have hki:(k:Int)<(us.length:Int):=by omega
   obtain⟨u,eu⟩:∃x,us[k]? =some x:=⟨_,List.getElem?_eq_getElem hkl⟩
   have CT1:=h_ (CT.out k u wr eu hbw)
   have HQ:=h_ (qvAt_of eu)
   have HBW:=h_ hbw
   obtain⟨v,ev⟩:∃v,v=dt us k u:=⟨_,rfl⟩
   rw[<-ev]at CT1 HQ
   clear eu hbw ev hk
   go_wp2_with fail
   refine CT1.out.mono ?_
   rintro e w2 ⟨rfl,hb2⟩
   have HB2:=h_ (HBW.out.trans (hb2.mono HBW.out.size))
   clear hb2 CT1
   cases v with
   |true=>
    go_wp2_with fail
    go_roundw
    case rel=>exact⟨k+1,rfl,hkl,h_ (dA hal.out HQ.out hkl),HB2.out⟩
    case measure=>simp[RowKit.intOf];omega
   |false=>
    have HF:=h_ (FIN.out w2 (k:Int) false (dB hkl HQ.out).symm HB2.out)
    clear FIN
    go_wp2_with fail
    exact HF.out
  ·have hki: ¬(k:Int)<(us.length:Int):=by omega
   have HF:=h_ (FIN.out wr (-1) true (by rw[<-hkl];exact hal.out.symm) hbw)
   clear hbw hal FIN hk
   go_wp2_with fail
   exact HF.out
end Go.Proofs.YtekfoaenomgjgaaGreatDoor
namespace Go.Cv
open Go Go.Cs Go.Opn Go.RowKit
structure AcT where
 kind:Int
 role:Int
 give:Int
 dest:Int
 unit:Int
 num:Int
 den:Int
def cP(a:AcT):List Value:= [.int .i64 a.kind, .int .i64 a.role, .int .i64 a.give, .int .i64 a.dest, .int .i64 a.unit, .int .i64 a.num, .int .i64 a.den]
abbrev Kl:=Cls×(Option Addr×Nat)
def aF(k:Kl):List Value:=fN k.1 (.slice k.2.1 k.1.start.length k.2.2)
structure Con where
 parties:Int
 holders:List Int
 units:List Un
 acts:List AcT
 cls:List Cls
 days:Int
 off:List Int
structure ConM where
 parties:Int
 holders:List Int
 units:List Un
 acts:List AcT
 kls:List Kl
 days:Int
 off:List Int
 hA:Option Addr
 hc:Nat
 uA:Option Addr
 uc:Nat
 aA:Option Addr
 ac:Nat
 kA:Option Addr
 kc:Nat
 oA:Option Addr
 oc:Nat
def ConM.con(c:ConM):Con:=⟨c.parties,c.holders,c.units,c.acts,c.kls.map Prod.fst,c.days,c.off⟩
def ak(c:ConM):List Value:= [.int .i64 c.parties, .slice c.hA c.holders.length c.hc, .slice c.uA c.units.length c.uc, .slice c.aA c.acts.length c.ac, .slice c.kA c.kls.length c.kc, .int .i64 c.days, .slice c.oA c.off.length c.oc]
theorem aX(c:ConM):∀v∈ak c,v.oneCell'=true:=fun v hv=>by
 simp only[ak,List.mem_cons,List.not_mem_nil,or_false]at hv
 rcases hv with rfl|rfl|rfl|rfl|rfl|rfl|rfl<;>rfl
structure ConAt (w:World) (c:ConM):Prop where
 h:SL w 1 Cs.encI c.hA c.holders
 u:SL w 5 cL c.uA c.units
 a:SL w 7 cP c.aA c.acts
 k:SL w 16 aF c.kA c.kls
 o:SL w 1 Cs.encI c.oA c.off
 st:∀k∈c.kls,SL w 2 ar k.2.1 k.1.start
theorem ConAt.below{w w':World}{c:ConM}{B:Nat}(h:ConAt w c)(hb:Below B w w')(hB:w.heap.size<=B):ConAt w' c:=
 ⟨h.h.below hb hB,h.u.below hb hB,h.a.below hb hB,h.k.below hb hB,h.o.below hb hB,fun k hk=>(h.st k hk).below hb hB⟩
structure ConSz (c:ConM):Prop where
 h:c.holders.length<=9223372036854775807
 u:c.units.length<=9223372036854775807
 a:c.acts.length<=9223372036854775807
 k:c.kls.length<=9223372036854775807
 o:c.off.length<=9223372036854775807
 uc:c.units.length<=c.uc
 st:∀k∈c.kls,k.1.start.length<=9223372036854775807
def fX(n:Nat)(i:Int):Bool:=decide (0<=i)&&decide (i<(n:Int))
def posB(num den:Int):Bool:=decide (0<num)&&ratV num den
def natB(acs:List AcT)(i:Int):Bool:=fX acs.length i&&(match acs[i.toNat]? with|some a=>decide (a.kind=1)&&decide (a.role= -1)|none=>false)
end Go.Cv
namespace Go.Proofs.YtekfoaenomgjgaaGreatDoor
open Go.RowKit Go.W32 Go.Blk Go.Cs Go.Lib Go.Opn Go.Mg Go.Cv
structure BoxC (W W1:World) (c:ConM) (cs:List Value):Prop where
 row:Row W1 W.heap.size 27 cs
 below:Below W.heap.size W W1
 e:W.alloc (.cells cs.toArray 27)=W1
 cs:cs=ak c
theorem boxC(W:World)(c:ConM):∃W1 cs,BoxC W W1 c cs:=⟨_,_,Row.new _ _ _,(Below.refl _ _).alloc (Nat.le_refl _) _,rfl,rfl⟩
structure ConC (w:World) (b:Nat) (c:ConM):Prop where
 k0:w.cell? ⟨b,0,none⟩=some (.int .i64 c.parties)
 k1:w.cell? ⟨b,1,none⟩=some (.slice c.hA c.holders.length c.hc)
 k2:w.cell? ⟨b,2,none⟩=some (.slice c.uA c.units.length c.uc)
 k3:w.cell? ⟨b,3,none⟩=some (.slice c.aA c.acts.length c.ac)
 k4:w.cell? ⟨b,4,none⟩=some (.slice c.kA c.kls.length c.kc)
 k5:w.cell? ⟨b,5,none⟩=some (.int .i64 c.days)
 k6:w.cell? ⟨b,6,none⟩=some (.slice c.oA c.off.length c.oc)
theorem ConC.of{w:World}{b:Nat}{T:TypeId}{c:ConM}(h:Row w b T (ak c)):ConC w b c:=⟨h.at rfl,h.at rfl,h.at rfl,h.at rfl,h.at rfl,h.at rfl,h.at rfl⟩
theorem aK(cs:List Value)(h:cs.length=7):(Tryz.prog.info? 27).map (·.size)=some cs.length:=by rw[h];kernel_rfl
theorem mov_any(c:ConM)(i:Int)(W:World):Calls Tryz.prog 127 #[.agg (ak c).toArray, .int .i64 i] W fun e w'=>e= .returned (.bool (fX c.holders.length i))/\Below W.heap.size W w':=by
 obtain⟨R,eR⟩:∃R:Ending->World->Prop,R=fun e w'=>e= .returned (.bool (fX c.holders.length i))/\Below W.heap.size W w':=⟨_,rfl⟩
 rw[<-eR]
 have FIN:Hid (∀w' v,v=fX c.holders.length i->Below W.heap.size W w'->R (.returned (.bool v)) w'):=h_ fun w' v h hb=>by rw[eR,h];exact⟨rfl,hb⟩
 clear eR
 obtain⟨W1,cs,hx⟩:=boxC W c
 have hq:=ConC.of (T:=27) (b:=W.heap.size) (w:=W1) (c:=c) (by rw[<-hx.cs];exact hx.row)
 obtain⟨k0,k1,k2,k3,k4,k5,k6⟩:=hq
 have E1:=h_ hx.e
 have HB1:=h_ hx.below
 rw[<-hx.cs]
 clear hx k0 k2 k3 k4 k5 k6
 by_cases h:0<=i
 ·have hb:decide (0<=i)=true:=decide_eq_true h
  by_cases h2:i<(c.holders.length:Int)
  ·have hb2:decide (i<(c.holders.length:Int))=true:=decide_eq_true h2
   have HF:=h_ (FIN.out W1 true (by unfold fX;rw[hb,hb2];rfl) HB1.out)
   clear FIN
   go_enter Tryz.func127,Tryz.ntmps127
   go_wp2_with (simp only[E1.out])
   exact HF.out
  ·have hb2:decide (i<(c.holders.length:Int))=false:=decide_eq_false h2
   have HF:=h_ (FIN.out W1 false (by unfold fX;rw[hb,hb2];rfl) HB1.out)
   clear FIN
   go_enter Tryz.func127,Tryz.ntmps127
   go_wp2_with (simp only[E1.out])
   exact HF.out
 ·have hb:decide (0<=i)=false:=decide_eq_false h
  have HF:=h_ (FIN.out W1 false (by unfold fX;rw[hb];rfl) HB1.out)
  clear FIN
  go_enter Tryz.func127,Tryz.ntmps127
  go_wp2_with (simp only[E1.out])
  exact HF.out
theorem dl(W:World):Calls Tryz.prog 125 #[] W fun e w'=>e= .returned (.agg #[.int .i64 0, .int .i64 1])/\Below W.heap.size W w':=by
 go_enter Tryz.func125,Tryz.ntmps125
 go_wp2_with fail
 exact bodyPost_ret (v:= .agg #[.int .i64 0, .int .i64 1]) (by simp[results,Tryz.results125,go_sem]) rfl ⟨rfl,(Below.refl _ _).alloc (Nat.le_refl _) _⟩
theorem pos_any(num den:Int)(W:World):Calls Tryz.prog 126 #[.agg #[.int .i64 num, .int .i64 den]] W fun e w'=>e= .returned (.bool (posB num den))/\Below W.heap.size W w':=by
 obtain⟨R,eR⟩:∃R:Ending->World->Prop,R=fun e w'=>e= .returned (.bool (posB num den))/\Below W.heap.size W w':=⟨_,rfl⟩
 rw[<-eR]
 have FIN:Hid (∀w' v,v=posB num den->Below W.heap.size W w'->R (.returned (.bool v)) w'):=h_ fun w' v h hb=>by rw[eR,h];exact⟨rfl,hb⟩
 clear eR
 obtain⟨fs,efs⟩:∃fs:List Value,fs= [.int .i64 num, .int .i64 den]:=⟨_,rfl⟩
 obtain⟨W1,e1⟩:∃W1,W1=W.alloc (.cells fs.toArray 43):=⟨_,rfl⟩
 have hr1:Row W1 W.heap.size 43 fs:=by rw[e1];exact Row.new _ _ _
 have HB1:Hid (Below W.heap.size W W1):=h_ (by rw[e1];exact(Below.refl _ _).alloc (Nat.le_refl _) _)
 have E1:Hid (W.alloc (.cells fs.toArray 43)=W1):=h_ e1.symm
 have c0:=hr1.at (show fs[0]? =some (.int .i64 num) by rw[efs];rfl)
 have HM:=h_ (hr1.range fun j v hj=>(show fs[0+j]? =some v by rw[Nat.zero_add];exact hj))
 have HI:=h_ (gQ fs (by rw[efs];rfl))
 have CR:=h_ (rat_any num den W1)
 rw[show(#[.int .i64 num, .int .i64 den]:Array Value)=fs.toArray by rw[efs]]at CR⊢
 obtain⟨V,eV⟩:∃V,V=ratV num den:=⟨_,rfl⟩
 have HV:Hid (posB num den=(decide (0<num)&&V)):=h_ (by unfold posB;rw[eV])
 rw[<-eV]at CR
 clear e1 hr1 efs eV
 by_cases h:0<num
 ·have HV2:Hid (V=posB num den):=h_ (by rw[HV.out,decide_eq_true h];rfl)
  go_enter Tryz.func126,Tryz.ntmps126
  go_wp2_with (first
   |(simp only[E1.out])
   |(refine ae (.tmp 1) ?_;refine Row.still (by first|exact Free.wanted_of rfl rfl rfl|rfl) (Hk.exec_mid 43 (.tmp 1) rfl W.heap.size 0 rfl fs _ HM.out Tryz.underlying43 rfl HI.out) ?_;simp only[Pt]))
  refine CR.out.mono ?_
  rintro e w2 ⟨rfl,hb2⟩
  have HF:=h_ (FIN.out w2 V HV2.out (HB1.out.trans (hb2.mono HB1.out.size)))
  clear hb2 CR FIN
  go_wp2_with fail
  exact HF.out
 ·have HF:=h_ (FIN.out W1 false (by rw[HV.out,decide_eq_false h];rfl) HB1.out)
  clear FIN
  go_enter Tryz.func126,Tryz.ntmps126
  go_wp2_with (simp only[E1.out])
  exact HF.out
end Go.Proofs.YtekfoaenomgjgaaGreatDoor
namespace Go.Proofs.YtekfoaenomgjgaaGreatDoor
open Go.RowKit Go.W32 Go.Blk Go.Cs Go.Lib Go.Opn Go.Mg Go.Cv

set_option maxHeartbeats 1000000 in
theorem nat_any(c:ConM)(i:Int)(W:World)(hc:ConAt W c):Calls Tryz.prog 124 #[.agg (ak c).toArray, .int .i64 i] W fun e w'=>e= .returned (.bool (natB c.acts i))/\Below W.heap.size W w':=by
 obtain⟨R,eR⟩:∃R:Ending->World->Prop,R=fun e w'=>e= .returned (.bool (natB c.acts i))/\Below W.heap.size W w':=⟨_,rfl⟩
 rw[<-eR]
 have FIN:Hid (∀w' v,v=natB c.acts i->Below W.heap.size W w'->R (.returned (.bool v)) w'):=h_ fun w' v h hb=>by rw[eR,h];exact⟨rfl,hb⟩
 clear eR
 obtain⟨W1,cs,hx⟩:=boxC W c
 obtain⟨k0,k1,k2,k3,k4,k5,k6⟩:=ConC.of (T:=27) (b:=W.heap.size) (w:=W1) (c:=c) (by rw[<-hx.cs];exact hx.row)
 have E1:=h_ hx.e
 have HB1:=h_ hx.below
 have hA:=hc.a.below hx.below (Nat.le_refl _)
 rw[<-hx.cs]
 clear hx k0 k1 k2 k4 k5 k6 hc
 by_cases h:0<=i
 rotate_left
 ·have hb:decide (0<=i)=false:=decide_eq_false h
  have HF:=h_ (FIN.out W1 false (by unfold natB fX;rw[hb];rfl) HB1.out)
  clear FIN hA
  go_enter Tryz.func124,Tryz.ntmps124
  go_wp2_with (simp only[E1.out])
  exact HF.out
 have hb:decide (0<=i)=true:=decide_eq_true h
 by_cases h2:i<(c.acts.length:Int)
 rotate_left
 ·have hb2:decide (i<(c.acts.length:Int))=false:=decide_eq_false h2
  have HF:=h_ (FIN.out W1 false (by unfold natB fX;rw[hb2,Bool.and_false];rfl) HB1.out)
  clear FIN hA
  go_enter Tryz.func124,Tryz.ntmps124
  go_wp2_with (simp only[E1.out])
  exact HF.out
 have hb2:decide (i<(c.acts.length:Int))=true:=decide_eq_true h2
 obtain⟨j,rfl⟩:∃j:Nat,i=(j:Int):=⟨i.toNat,by omega⟩
 obtain⟨a,ea⟩:∃x,c.acts[j]? =some x:=⟨_,List.getElem?_eq_getElem (by omega)⟩
 obtain⟨b,off,eA⟩:=aC hA (by intro e;rw[e]at ea;simp at ea)
 rw[eA]at k3 hA
 have hr:=az hA ea
 have a0:W1.cell? ⟨b,off+j*7,none⟩=some (.int .i64 a.kind):=by have h:=hr 0 (.int .i64 a.kind) rfl;rwa[Nat.add_zero]at h
 have a1:W1.cell? ⟨b,off+j*7+1,none⟩=some (.int .i64 a.role):=hr 1 _ rfl
 have HV:Hid (natB c.acts (j:Int)=(decide (a.kind=1)&&decide (a.role= -1))):=h_ (by unfold natB fX;rw[hb,hb2,Int.toNat_natCast,ea];rfl)
 clear hr hA ea eA
 by_cases h3:a.kind=1
 rotate_left
 ·have hb3:(a.kind==1)=false:=by simpa using h3
  have HF:=h_ (FIN.out W1 false (by rw[HV.out,decide_eq_false h3];rfl) HB1.out)
  clear FIN HV h3
  go_enter Tryz.func124,Tryz.ntmps124
  go_wp2_with (simp only[E1.out])
  exact HF.out
 have hb3:(a.kind==1)=true:=by simpa using h3
 by_cases h4:a.role= -1
 ·have hb4:(a.role== -1)=true:=by simpa using h4
  have HF:=h_ (FIN.out W1 true (by rw[HV.out,decide_eq_true h3,decide_eq_true h4];rfl) HB1.out)
  clear FIN HV h3 h4
  go_enter Tryz.func124,Tryz.ntmps124
  go_wp2_with (simp only[E1.out])
  exact HF.out
 ·have hb4:(a.role== -1)=false:=by simpa using h4
  have HF:=h_ (FIN.out W1 false (by rw[HV.out,decide_eq_false h4,Bool.and_false]) HB1.out)
  clear FIN HV h3 h4
  go_enter Tryz.func124,Tryz.ntmps124
  go_wp2_with (simp only[E1.out])
  exact HF.out
def gR(parties:Int)(l:List Int):Bool:=l.all fun h=>decide (0<=h)&&decide (h<parties)
set_option maxHeartbeats 1000000 in
theorem held_any(c:ConM)(W:World)(hc:ConAt W c)(hn:c.holders.length<=12)(hp:c.parties<=12):Calls Tryz.prog 120 #[.agg (ak c).toArray] W fun e w'=>e= .returned (.bool (gR c.parties c.holders))/\Below W.heap.size W w':=by
 obtain⟨R,eR⟩:∃R:Ending->World->Prop,R=fun e w'=>e= .returned (.bool (gR c.parties c.holders))/\Below W.heap.size W w':=⟨_,rfl⟩
 rw[<-eR]
 have FIN:Hid (∀w' v,v=gR c.parties c.holders->Below W.heap.size W w'->R (.returned (.bool v)) w'):=h_ fun w' v h hb=>by rw[eR,h];exact⟨rfl,hb⟩
 clear eR
 obtain⟨W1,cs,hx⟩:=boxC W c
 obtain⟨k0,k1,k2,k3,k4,k5,k6⟩:=ConC.of (T:=27) (b:=W.heap.size) (w:=W1) (c:=c) (by rw[<-hx.cs];exact hx.row)
 have E1:=h_ hx.e
 have HB1:=h_ hx.below
 have HS:=h_ (hc.h.below hx.below (Nat.le_refl _))
 rw[<-hx.cs]
 clear hx k2 k3 k4 k5 k6 hc
 have HP:=h_ hp
 clear hp
 go_enter Tryz.func120,Tryz.ntmps120
 go_wp2_with (simp only[E1.out])
 go_step3
 go_wp2_with fail
 go_step3
 go_wp2_with fail
 go_loopg [8] c.holders.length (fun g v wx=> ∃k:Nat,k+g=c.holders.length/\v= .int .i64 (k:Int)/\Hid (gR c.parties (c.holders.take k)=true)/\wx=W1)
 case atStart=>exact⟨0,by omega,rfl,h_ (by simp[gR]),rfl⟩
 case round=>
  obtain⟨k,hk,rfl,hal,hwx⟩:=hrel
  subst hwx
  rcases Nat.lt_or_ge k c.holders.length with hkl|hkl
  ·have hki:(k:Int)<(c.holders.length:Int):=by omega
   obtain⟨x,ex⟩:∃x,c.holders[k]? =some x:=⟨_,List.getElem?_eq_getElem hkl⟩
   obtain⟨b,off,eA⟩:=aC HS.out (by intro e;rw[e]at hkl;simp at hkl)
   have cx:wr.cell? ⟨b,off+k,none⟩=some (.int .i64 x):=by have h:=HS.out;rw[eA]at h;exact bR h ex
   rw[eA]at k1
   obtain⟨go,hgo⟩:∃go,gk=go+1:=⟨gk-1,by omega⟩
   have HGO:=h_ hgo
   have HKG:Hid ((k+1)+go=c.holders.length):=h_ (by omega)
   have EX:=h_ ex
   have HKL:=h_ hkl
   generalize gk=gk0 at*
   clear ex eA hk hgo hkl
   go_wp2_with fail
   go_loopg [13] 12 (fun g v wx=> ∃p:Nat,p+g=12/\v= .int .i64 (p:Int)/\Hid (∀q:Nat,q<p->(q:Int)≠x)/\Hid ((p:Int)<=c.parties\/p=0)/\wx=wr)
   case atStart=>exact⟨0,rfl,rfl,h_ (fun q hq=>by omega),h_ (Or.inr rfl),rfl⟩
   case round=>
    obtain⟨p,hpg,rfl,hpp,hpl,hwx⟩:=hrel
    subst hwx
    by_cases hlt:(p:Int)<c.parties
    ·have hp12:p<12:=by have:=HP.out;omega
     by_cases hxp:x=(p:Int)
     ·have HNX:Hid (gR c.parties (c.holders.take (k+1))=true):=h_ (by
       unfold gR
       exact ct EX.out hal.out (by rw[hxp,decide_eq_true (by omega),decide_eq_true hlt];rfl))
      rw[hxp]at cx
      clear hxp hpg
      go_wp2_with fail
      go_roundg go
      case measure=>have:=HGO.out;omega
      case rel=>exact⟨k+1,HKG.out,rfl,HNX,rfl⟩
     ·have hxb:(x==(p:Int))=false:=by simpa using hxp
      have HPG:=h_ hpg
      have HNX:Hid (∀q:Nat,q<p+1->(q:Int)≠x):=h_ (fun q hq=>by
       rcases Nat.lt_or_eq_of_le (Nat.le_of_lt_succ hq)with h|h
       ·exact hpp.out q h
       ·rw[h];exact fun e=>hxp e.symm)
      have HPX:Hid (((p+1:Nat):Int)<=c.parties\/p+1=0):=h_ (Or.inl (by omega))
      clear hxp hpg
      go_wp2_with fail
      go_roundg (11-p)
      case measure=>have:=HPG.out;omega
      case rel=>exact⟨p+1,by omega,by go_num,HNX,HPX,rfl⟩
    ·have HF:=h_ (FIN.out wr false (by
      unfold gR
      symm
      refine bm EX.out ?_
      by_cases h0:0<=x
      ·have hx: ¬x<c.parties:=fun h=>by
        have h1:=hpp.out x.toNat (by rcases hpl.out with h2|h2<;>omega)
        omega
       rw[decide_eq_false hx,Bool.and_false]
      ·rw[decide_eq_false h0];rfl) HB1.out)
     clear FIN
     go_wp2_with fail
     first
      |exact HF.out
      |(rw[Exit.noGoto_ret];exact HF.out)
  ·have hki: ¬(k:Int)<(c.holders.length:Int):=by omega
   have HF:=h_ (FIN.out wr true (by have:=hal.out;rw[List.take_of_length_le hkl]at this;exact this.symm) HB1.out)
   clear FIN hk
   go_wp2_with fail
   first
    |exact HF.out
    |(rw[Exit.noGoto_ret];exact HF.out)
end Go.Proofs.YtekfoaenomgjgaaGreatDoor
