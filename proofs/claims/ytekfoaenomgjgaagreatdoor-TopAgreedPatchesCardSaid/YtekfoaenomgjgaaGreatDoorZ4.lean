/- Package contract: validKind. Condition: the contract lies in memory. -/
import Derived.Test.YtekfoaenomgjgaaGreatDoorCvE
set_option maxRecDepth 100000
set_option linter.all false
namespace Go.Cv
open Go
def cA(days:Int):Int->List Int->Bool
 |_,[]=>true
 |last,d::r=>(decide (last<d)&&decide (d<days))&&cA days d r
def bJ(c:Con):Bool:=(decide (1<=c.parties)&&(decide (1<=c.days)&&(!decide (c.holders= [])&&(c.holders.all fun h=>decide (0<=h)&&decide (h<c.parties)))))&&(unitsV c.units&&((c.acts.all (actV c.parties c.holders.length c.units.length))&&cA c.days (-1) c.off))
structure ConLim (c:ConM):Prop where
 p:c.parties<=12
 h:c.holders.length<=12
 u:c.units.length<=20
 a:c.acts.length<=60
 k:c.kls.length<=400
theorem gM{days:Int}:∀ {l:List Int} {last:Int} {k:Nat} {d:Int},l[k]? =some d->cA days last (l.take k)=true->cA days last (l.take (k+1))=(decide (((l.take k).getLast?).getD last<d)&&decide (d<days))
 | [],_,_,_,h,_=>by simp at h
 |x::r,last,0,d,h,_=>by
  simp at h
  subst h
  show cA days last [x]=_
  simp only[cA,Bool.and_true]
  rfl
 |x::r,last,k+1,d,h,hk=>by
  simp only[List.getElem?_cons_succ]at h
  simp only[List.take_succ_cons,cA,Bool.and_eq_true,decide_eq_true_eq]at hk
  have:=gM (last:=x) h hk.2
  simp only[List.take_succ_cons,cA,decide_eq_true hk.1.1,decide_eq_true hk.1.2,Bool.true_and]
  rw[this]
  congr 2
  cases hr:r.take k with
  |nil=>simp
  |cons y s=>simp[List.getLast?_cons]
theorem fJ{days:Int}:∀ {l:List Int} {last:Int} {k:Nat},cA days last (l.take k)=false->cA days last l=false
 | [],_,_,h=>by simpa[cA]using h
 |x::r,last,0,h=>by simp[cA]at h
 |x::r,last,k+1,h=>by
  simp only[List.take_succ_cons,cA]at h⊢
  cases h1:(decide (last<x)&&decide (x<days))with
  |false=>rfl
  |true=>rw[h1,Bool.true_and]at h;rw[Bool.true_and];exact fJ h
end Go.Cv
namespace Go.Proofs.YtekfoaenomgjgaaGreatDoor
open Go.RowKit Go.W32 Go.Blk Go.Cs Go.Lib Go.Opn Go.Mg Go.Cv

theorem info_ac(cs:List Value)(h:cs.length=7):(Tryz.prog.info? 98).map (·.size)=some cs.length:=by rw[h];kernel_rfl
theorem store_ac{cs:List Value}(hcl:cs.length=7)(hc1:∀v∈cs,v.oneCell'=true)(s t:Nat)(W0 W1:World)(b:Nat)(hb:b=W0.heap.size)(e1:W1=W0.alloc (.cells cs.toArray 98))(Q:Exit->Act->World->Prop)(ops:Array Oper)(rest:List Oper)(o:Oper)(a:Act)(hgd:o.guard=none)(ho:o.op= .store 98 (.tmp s) (.tmp t))(hx:a.eval (.tmp s)= .pointer (some ⟨b,0,none⟩))(hy:a.eval (.tmp t)= .agg cs.toArray)(old:Array Value)(hold:old.size=7)(hk:wpList Tryz.prog ops Q rest (a.put o.dst undef) W1):wpList Tryz.prog ops Q (o::rest) a (W0.alloc (.cells old 98)):=by
 rw[e1]at hk
 exact Hk.wpList_store_fresh hgd 98 (.tmp s) (.tmp t) ho b _ hx hy old 98 hb (by rw[info_ac cs hcl];simp) (by rw[hold];simp[hcl]) (all_oneCell_toArray hc1) hk
theorem encAc_one(a:AcT):∀v∈cP a,v.oneCell'=true:=fun v hv=>by
 simp only[cP,List.mem_cons,List.not_mem_nil,or_false]at hv
 rcases hv with rfl|rfl|rfl|rfl|rfl|rfl|rfl<;>rfl
set_option maxHeartbeats 4000000 in
theorem framed_any(c:ConM)(W:World)(hc:ConAt W c)(hl:ConLim c)(hz:ConSz c):Calls Tryz.prog 85 #[.agg (ak c).toArray] W fun e w'=>e= .returned (.bool (bJ c.con))/\Below W.heap.size W w':=by
 obtain⟨R,eR⟩:∃R:Ending->World->Prop,R=fun e w'=>e= .returned (.bool (bJ c.con))/\Below W.heap.size W w':=⟨_,rfl⟩
 rw[<-eR]
 have FIN:Hid (∀w' v,v=bJ c.con->Below W.heap.size W w'->R (.returned (.bool v)) w'):=h_ fun w' v h hb=>by rw[eR,h];exact⟨rfl,hb⟩
 clear eR
 have HV:Hid (bJ c.con=((decide (1<=c.parties)&&(decide (1<=c.days)&&(!decide (c.holders.length=0)&&gR c.parties c.holders)))&&(unitsV c.units&&((c.acts.all (actV c.parties c.holders.length c.units.length))&&cA c.days (-1) c.off)))):=h_ (by
  unfold bJ gR ConM.con
  simp only[List.length_eq_zero_iff])
 obtain⟨W1,cs,hx⟩:=boxC W c
 obtain⟨k0,k1,k2,k3,k4,k5,k6⟩:=ConC.of (T:=27) (b:=W.heap.size) (w:=W1) (c:=c) (by rw[<-hx.cs];exact hx.row)
 have HK:Hid (∀w',Below W1.heap.size W1 w'->ConC w' W.heap.size c/\w'.rangeAt W.heap.size 0 cs/\ConAt w' c):=h_ fun w' hb=>⟨ConC.of (T:=27) (by rw[<-hx.cs];exact hx.row.below hb hx.row.lt),(hx.row.below hb hx.row.lt).rg,hc.below (hx.below.trans (hb.mono hx.below.size)) (Nat.le_refl _)⟩
 have E1:=h_ hx.e
 have HB1:=h_ hx.below
 have HI:=h_ (aK cs (by rw[hx.cs];rfl))
 have CH:=h_ (held_any c W1 (HK.out W1 (Below.refl _ _)).2.2 hl.h hl.p)
 have CQ:Hid (∀w',Below W1.heap.size W1 w'->Calls Tryz.prog 121 #[.slice c.uA c.units.length c.uc] w' (QvPost c.units w')):=h_ fun w' hb=>qv_any c.uA c.uc c.units w' (HK.out w' hb).2.2.u hz.uc (by have:=hl.u;omega)
 have CA:=h_ (fun a w=>act_any c a w)
 rw[<-hx.cs]at CH CA⊢
 have HL:=h_ hl
 have HZ:=h_ hz
 clear hx hc hl hz k2 k3 k4 k6
 by_cases h1:1<=c.parties
 rotate_left
 ·have q1:decide (1<=c.parties)=false:=decide_eq_false h1
  have q1':decide (c.parties<1)=true:=decide_eq_true (by omega)
  have HF:=h_ (FIN.out W1 false (by rw[HV.out];simp[q1]) HB1.out)
  clear FIN HV
  go_enter Tryz.func85,Tryz.ntmps85
  go_wp2_with (simp only[E1.out])
  exact HF.out
 have q1:decide (1<=c.parties)=true:=decide_eq_true h1
 have q1':decide (c.parties<1)=false:=decide_eq_false (by omega)
 by_cases h2:1<=c.days
 rotate_left
 ·have q2:decide (1<=c.days)=false:=decide_eq_false h2
  have q2':decide (c.days<1)=true:=decide_eq_true (by omega)
  have HF:=h_ (FIN.out W1 false (by rw[HV.out];simp[q2]) HB1.out)
  clear FIN HV
  go_enter Tryz.func85,Tryz.ntmps85
  go_wp2_with (simp only[E1.out])
  exact HF.out
 have q2:decide (1<=c.days)=true:=decide_eq_true h2
 have q2':decide (c.days<1)=false:=decide_eq_false (by omega)
 by_cases h3:c.holders.length=0
 ·have q3:decide (c.holders.length=0)=true:=decide_eq_true h3
  have q3':((c.holders.length:Int)==0)=true:=by simpa using h3
  have HF:=h_ (FIN.out W1 false (by rw[HV.out];simp[h3]) HB1.out)
  clear FIN HV h3
  go_enter Tryz.func85,Tryz.ntmps85
  go_wp2_with (simp only[E1.out])
  exact HF.out
 have q3:decide (c.holders.length=0)=false:=decide_eq_false h3
 have q3':((c.holders.length:Int)==0)=false:=by simp;intro e;exact h3 (by rw[e];rfl)
 obtain⟨HB,eHB⟩:∃HB,HB=gR c.parties c.holders:=⟨_,rfl⟩
 rw[<-eHB]at CH HV
 have HV2:Hid (bJ c.con=(HB&&(unitsV c.units&&((c.acts.all (actV c.parties c.holders.length c.units.length))&&cA c.days (-1) c.off)))):=h_ (by rw[HV.out,q1,q2,q3];rfl)
 have HML:=h_ (HK.out W1 (Below.refl _ _)).2.1
 clear HV eHB h1 h2 h3 q1 q2 q3
 go_enter Tryz.func85,Tryz.ntmps85
 go_wp2_with (first
  |(simp only[E1.out])
  |(refine ae (.tmp 1) ?_;refine Row.still (by first|exact Free.wanted_of rfl rfl rfl|rfl) (Hk.exec_mid 27 (.tmp 1) rfl W.heap.size 0 rfl cs _ HML.out Tryz.underlying27 rfl HI.out) ?_;simp only[Pt]))
 refine CH.out.mono ?_
 rintro e w2 ⟨rfl,hb2⟩
 obtain⟨⟨k0,k1,k2,k3,k4,k5,k6⟩,_,_⟩:=HK.out w2 hb2
 have HB2:=h_ hb2
 clear hb2 CH HML k0 k1 k4 k5 k6
 cases HB with
 |false=>
  have HF:=h_ (FIN.out w2 false (by rw[HV2.out];rfl) (HB1.out.trans (HB2.out.mono HB1.out.size)))
  clear FIN HV2
  go_wp2_with fail
  exact HF.out
 |true=>
 go_wp2_with fail
 refine(CQ.out w2 HB2.out).mono ?_
 rintro e w3 ⟨⟨ix,rfl⟩,hb3⟩
 have HB3:=h_ (HB2.out.trans (hb3.mono HB2.out.size))
 obtain⟨⟨k0,k1,k2,k3,k4,k5,k6⟩,_,_⟩:=HK.out w3 HB3.out
 obtain⟨UB,eUB⟩:∃UB,UB=unitsV c.units:=⟨_,rfl⟩
 rw[<-eUB]at HV2⊢
 clear hb3 CQ eUB k0 k1 k2 k4 k5
 cases UB with
 |false=>
  have HF:=h_ (FIN.out w3 false (by rw[HV2.out];rfl) (HB1.out.trans (HB3.out.mono HB1.out.size)))
  clear FIN HV2
  go_wp2_with fail
  exact HF.out
 |true=>
 have HV3:Hid (bJ c.con=((c.acts.all (actV c.parties c.holders.length c.units.length))&&cA c.days (-1) c.off)):=h_ (by rw[HV2.out];rfl)
 clear HV2
 go_wp2_with fail
 obtain⟨af,eaf⟩:∃af,af=actV c.parties c.holders.length c.units.length:=⟨_,rfl⟩
 rw[<-eaf]at HV3
 have CA2:Hid (∀a w,Calls Tryz.prog 122 #[.agg cs.toArray, .agg (cP a).toArray] w fun e w'=>e= .returned (.bool (af a))/\Below w.heap.size w w'):=h_ fun a w=>by rw[eaf];exact CA.out a w
 clear CA eaf k6 k3
 go_loopw [40] (fun v wr=> ∃k:Nat,v= .int .i64 (k:Int)/\k<=c.acts.length/\Hid ((c.acts.take k).all af=true)/\Below W1.heap.size W1 wr) (fun v _=>(c.acts.length:Int).toNat- (RowKit.intOf v).toNat)
 case atStart=>exact⟨0,rfl,Nat.zero_le _,h_ rfl,HB3.out⟩
 case round=>
  obtain⟨k,rfl,hk,hal,hbw⟩:=hrel
  have hkb:(k:Int)<=60:=by have:=HL.out.a;omega
  obtain⟨⟨k0,k1,k2,k3,k4,k5,k6⟩,hrg,hat⟩:=HK.out wr hbw
  rcases Nat.lt_or_eq_of_le hk with hkl|hkl
  ·have hki:(k:Int)<(c.acts.length:Int):=by omega
   obtain⟨a,ea⟩:∃x,c.acts[k]? =some x:=⟨_,List.getElem?_eq_getElem hkl⟩
   have hA:=hat.a
   obtain⟨b,off,eA⟩:=aC hA (by intro e;rw[e]at hkl;simp at hkl)
   rw[eA]at k3 hA⊢
   obtain⟨ds,eds⟩:∃ds,ds=cP a:=⟨_,rfl⟩
   have hdl:ds.length=7:=by rw[eds];rfl
   have HMk:Hid (wr.rangeAt b (off+k*7) ds):=h_ (by rw[eds];exact az hA ea)
   have HIk:=h_ (info_ac ds hdl)
   obtain⟨Wk,ek⟩:∃Wk,Wk=wr.alloc (.cells ds.toArray 98):=⟨_,rfl⟩
   have hrk:Row Wk wr.heap.size 98 ds:=by rw[ek];exact Row.new _ _ _
   have hbk:Below wr.heap.size wr Wk:=by rw[ek];exact(Below.refl _ _).alloc (Nat.le_refl _) _
   have HSk:=h_ (store_ac hdl (by rw[eds];exact encAc_one a) 6 43 wr Wk _ rfl ek)
   have HBk:=h_ (hbw.trans (hbk.mono hbw.size))
   have HMC:=h_ (HK.out Wk HBk.out).2.1
   have HMA:=h_ hrk.rg
   have CAk:=h_ (CA2.out a Wk)
   rw[<-eds]at CAk
   obtain⟨v,ev⟩:∃v,v=af a:=⟨_,rfl⟩
   rw[<-ev]at CAk
   have EV:=h_ ev
   have EA:=h_ ea
   clear eds hdl ek hrk hbk hA ea ev eA hbw hrg hat hk k0 k1 k2 k4 k5 k6
   go_wp2_with (first
    |(refine ae (.tmp 42) ?_;refine wpList_load_mid rfl 98 (.tmp 42) rfl b (off+k*7) rfl ds _ HMk.out Tryz.underlying98 rfl HIk.out ?_)
    |(refine ai (.tmp 6) ?_;refine HSk.out _ _ _ _ _ rfl rfl rfl rfl _ (by simp) ?_;simp only[Pt])
    |(refine ae (.tmp 1) ?_;refine wpList_load_mid rfl 27 (.tmp 1) rfl W.heap.size 0 rfl cs _ HMC.out Tryz.underlying27 rfl HI.out ?_)
    |(refine ae (.tmp 6) ?_;refine wpList_load_mid rfl 98 (.tmp 6) rfl wr.heap.size 0 rfl ds _ HMA.out Tryz.underlying98 rfl HIk.out ?_))
   refine CAk.out.mono ?_
   rintro e w5 ⟨rfl,hb5⟩
   have HB5:=h_ (HBk.out.trans (hb5.mono HBk.out.size))
   clear hb5 CAk
   cases v with
   |true=>
    go_wp2_with fail
    go_roundw
    case rel=>exact⟨k+1,rfl,hkl,h_ (ct EA.out hal.out EV.out.symm),HB5.out⟩
    case measure=>simp[RowKit.intOf];omega
   |false=>
    have HF:=h_ (FIN.out w5 false (by rw[HV3.out,bm EA.out EV.out.symm];rfl) (HB1.out.trans (HB5.out.mono HB1.out.size)))
    clear FIN HV3
    go_wp2_with fail
    exact HF.out
  ·have hki: ¬(k:Int)<(c.acts.length:Int):=by omega
   have HV4:Hid (bJ c.con=cA c.days (-1) c.off):=h_ (by
    have:=hal.out
    rw[List.take_of_length_le (by omega)]at this
    rw[HV3.out,this];rfl)
   have HB4:=h_ hbw
   clear HV3 hbw hal hrg hat hk hkl CA2 k0 k1 k2 k3 k4 k5
   go_wp2_with fail
   generalize wr=wo at*
   go_loopw [7,52] (fun u v wr=> ∃k:Nat,v= .int .i64 (k:Int)/\k<=c.off.length/\u= .int .i64 (((c.off.take k).getLast?).getD (-1))/\Hid (cA c.days (-1) (c.off.take k)=true)/\wr=wo) (fun _ v _=>(c.off.length:Int).toNat- (RowKit.intOf v).toNat)
   case atStart=>exact⟨0,rfl,Nat.zero_le _,rfl,h_ rfl,rfl⟩
   case round=>
    obtain⟨k,rfl,hk,rfl,hal,hwo⟩:=hrel
    subst hwo
    obtain⟨⟨k0,k1,k2,k3,k4,k5,k6'⟩,hrg,hat⟩:=HK.out wr HB4.out
    rcases Nat.lt_or_eq_of_le hk with hkl|hkl
    ·have hki:(k:Int)<(c.off.length:Int):=by omega
     have hkb:(k:Int)+1<=9223372036854775807:=by have:=HZ.out.o;omega
     obtain⟨d,ed⟩:∃x,c.off[k]? =some x:=⟨_,List.getElem?_eq_getElem hkl⟩
     have hO:=hat.o
     obtain⟨b,off,eO⟩:=aC hO (by intro e;rw[e]at hkl;simp at hkl)
     rw[eO]at hO⊢
     have cd:=bR hO ed
     have hstep:=gM ed hal.out
     obtain⟨L,eL⟩:∃L,L=((c.off.take k).getLast?).getD (-1):=⟨_,rfl⟩
     rw[<-eL]at hstep⊢
     have HSTP:=h_ hstep
     have HLAST:Hid (((c.off.take (k+1)).getLast?).getD (-1)=d):=h_ (by rw[List.take_add_one,ed,Option.toList_some,List.getLast?_append];rfl)
     have HLS:Hid (cA c.days (-1) (c.off.take (k+1))=false->cA c.days (-1) c.off=false):=h_ fJ
     clear hstep eL ed hO eO hrg hat hk k0 k1 k2 k3 k4 k6 k6'
     by_cases h1:L<d
     rotate_left
     ·have q1:decide (d<=L)=true:=decide_eq_true (by omega)
      have HF:=h_ (FIN.out wr false (by rw[HV4.out,HLS.out (by rw[HSTP.out,decide_eq_false h1];rfl)]) (HB1.out.trans (HB4.out.mono HB1.out.size)))
      clear FIN HV4
      go_wp2_with fail
      exact HF.out
     have q1:decide (d<=L)=false:=decide_eq_false (by omega)
     by_cases h2:d<c.days
     rotate_left
     ·have q2:decide (c.days<=d)=true:=decide_eq_true (by omega)
      have HF:=h_ (FIN.out wr false (by rw[HV4.out,HLS.out (by rw[HSTP.out,decide_eq_false h2,Bool.and_false])]) (HB1.out.trans (HB4.out.mono HB1.out.size)))
      clear FIN HV4
      go_wp2_with fail
      exact HF.out
     have q2:decide (c.days<=d)=false:=decide_eq_false (by omega)
     have HNX:Hid (cA c.days (-1) (c.off.take (k+1))=true):=h_ (by rw[HSTP.out,decide_eq_true h1,decide_eq_true h2];rfl)
     go_wp2_with fail
     go_roundw
     case rel=>exact⟨k+1,rfl,hkl,by rw[HLAST.out],HNX,by trivial⟩
     case measure=>simp[RowKit.intOf];omega
    ·have hki: ¬(k:Int)<(c.off.length:Int):=by omega
     have HF:=h_ (FIN.out wr true (by have:=hal.out;rw[List.take_of_length_le (by omega)]at this;rw[HV4.out,this]) (HB1.out.trans (HB4.out.mono HB1.out.size)))
     clear FIN HV4 hal hk hkl
     go_wp2_with fail
     exact HF.out
end Go.Proofs.YtekfoaenomgjgaaGreatDoor
namespace Go.Cv
open Go Go.Cs
def kindV(H:Nat)(acs:List AcT)(k:Cls):Bool:=
 if k.kind==4 then(k.role== -1)&&((k.need==1)&&((k.grace==0)&& !k.fin))
 else if !fX H k.role||natB acs k.act then false
 else if k.kind==1 then decide (1<=k.need)&&(decide (k.need<=9)&&(decide (0<=k.grace)&&decide (k.grace<=400)))
 else if k.kind==2 then(k.need==1)&&(k.grace==0)
 else if k.kind==3 then(k.need==1)&&((k.grace==0)&& !k.fin)
 else false
end Go.Cv
namespace Go.Proofs.YtekfoaenomgjgaaGreatDoor
open Go.RowKit Go.W32 Go.Blk Go.Cs Go.Lib Go.Opn Go.Mg Go.Cv
structure ClsK (w:World) (b:Nat) (k:Cls) (st:Value):Prop where
 q0:w.cell? ⟨b,0,none⟩=some (.int .i64 k.kind)
 q1:w.cell? ⟨b,1,none⟩=some (.int .i64 k.role)
 q2:w.cell? ⟨b,2,none⟩=some (.int .i64 k.act)
 q3:w.cell? ⟨b,3,none⟩=some (.int .i64 k.need)
 q4:w.cell? ⟨b,4,none⟩=some st
 q5:w.cell? ⟨b,5,none⟩=some (.int .i64 k.after)
 q6:w.cell? ⟨b,6,none⟩=some (.int .i64 k.grace)
 q7:w.cell? ⟨b,7,none⟩=some (.bool k.bus)
 q8:w.cell? ⟨b,8,none⟩=some (.bool k.fin)
 q9:w.cell? ⟨b,9,none⟩=some (.int .i64 k.pause)
 q10:w.cell? ⟨b,10,none⟩=some (.int .i64 k.resume)
 q11:w.cell? ⟨b,11,none⟩=some (.int .i64 k.num)
 q12:w.cell? ⟨b,12,none⟩=some (.int .i64 k.den)
 q13:w.cell? ⟨b,13,none⟩=some (.int .i64 k.unit)
 q14:w.cell? ⟨b,14,none⟩=some (.int .i64 k.to)
 q15:w.cell? ⟨b,15,none⟩=some (.bool k.waived)
theorem ClsK.of{w:World}{b:Nat}{T:TypeId}{k:Cls}{st:Value}(h:Row w b T (fN k st)):ClsK w b k st:=
 ⟨h.at rfl,h.at rfl,h.at rfl,h.at rfl,h.at rfl,h.at rfl,h.at rfl,h.at rfl,h.at rfl,h.at rfl,h.at rfl,h.at rfl,h.at rfl,h.at rfl,h.at rfl,h.at rfl⟩
theorem ClsK.ofKl{w:World}{b:Nat}{T:TypeId}{k:Kl}(h:Row w b T (aF k)):ClsK w b k.1 (.slice k.2.1 k.1.start.length k.2.2):=ClsK.of h
set_option maxHeartbeats 4000000 in
theorem kind_any(c:ConM)(k:Kl)(W:World)(hc:ConAt W c):Calls Tryz.prog 123 #[.agg (ak c).toArray, .agg (aF k).toArray] W fun e w'=>e= .returned (.bool (kindV c.holders.length c.acts k.1))/\Below W.heap.size W w':=by
 obtain⟨R,eR⟩:∃R:Ending->World->Prop,R=fun e w'=>e= .returned (.bool (kindV c.holders.length c.acts k.1))/\Below W.heap.size W w':=⟨_,rfl⟩
 rw[<-eR]
 have FIN:Hid (∀w' v,v=kindV c.holders.length c.acts k.1->Below W.heap.size W w'->R (.returned (.bool v)) w'):=h_ fun w' v h hb=>by rw[eR,h];exact⟨rfl,hb⟩
 clear eR
 obtain⟨cs,ecs⟩:∃cs,cs=ak c:=⟨_,rfl⟩
 obtain⟨ds,eds⟩:∃ds,ds=aF k:=⟨_,rfl⟩
 obtain⟨hr1,hr2,hbw⟩:=bu W 27 45 cs ds
 have CM0:=fun i w=>mov_any c i w
 have CN0:∀i w,Below W.heap.size W w->_:=fun i w hb=>nat_any c i w (hc.below hb (Nat.le_refl _))
 rw[<-ecs]at CM0⊢
 simp only[<-ecs]at CN0
 rw[<-eds]
 generalize eW:(W.alloc (.cells cs.toArray 27)).alloc (.cells ds.toArray 45)=W2 at*
 have E1:=h_ eW
 have HQ:Hid (∀w',Below W2.heap.size W2 w'->ClsK w' (W.heap.size+1) k.1 (.slice k.2.1 k.1.start.length k.2.2)):=h_ fun w' hb=>ClsK.ofKl (T:=45) (by rw[<-eds];exact hr2.below hb hr2.lt)
 have HM:Hid (∀w',Below W2.heap.size W2 w'->w'.rangeAt W.heap.size 0 cs):=h_ fun w' hb=>(hr1.below hb hr1.lt).rg
 have HI:=h_ (aK cs (by rw[ecs];rfl))
 have HB2:=h_ hbw
 obtain⟨RB,eRB⟩:∃RB,RB=fX c.holders.length k.1.role:=⟨_,rfl⟩
 obtain⟨NB,eNB⟩:∃NB,NB=natB c.acts k.1.act:=⟨_,rfl⟩
 have CM:=h_ (CM0 k.1.role)
 have CN:=h_ (fun w hb=>CN0 k.1.act w hb)
 rw[<-eRB]at CM
 rw[<-eNB]at CN
 have HV:Hid (kindV c.holders.length c.acts k.1=(if k.1.kind==4 then(k.1.role== -1)&&((k.1.need==1)&&((k.1.grace==0)&& !k.1.fin))
  else if !RB||NB then false
  else if k.1.kind==1 then decide (1<=k.1.need)&&(decide (k.1.need<=9)&&(decide (0<=k.1.grace)&&decide (k.1.grace<=400)))
  else if k.1.kind==2 then(k.1.need==1)&&(k.1.grace==0)
  else if k.1.kind==3 then(k.1.need==1)&&((k.1.grace==0)&& !k.1.fin)
  else false)):=h_ (by unfold kindV;rw[eRB,eNB])
 obtain⟨q0,q1,q2,q3,q4,q5,q6,q7,q8,q9,q10,q11,q12,q13,q14,q15⟩:=HQ.out W2 (Below.refl _ _)
 have HMl:=h_ (HM.out W2 (Below.refl _ _))
 obtain⟨⟨kind,role,act,need,start,after,grace,bus,fin,pause,resume,num,den,unit,dest,waived⟩,kA,kc⟩:=k
 simp only at q0 q1 q2 q3 q6 q8 HV FIN CM CN HQ
 clear ecs eds hr1 hr2 hbw CM0 CN0 eW eRB eNB q4 q5 q7 q9 q10 q11 q12 q13 q14 q15 hc
 by_cases h4:kind=4
 ·have b4:(kind==4)=true:=by simpa using h4
  have HF:Hid (∀v,v=((role== -1)&&((need==1)&&((grace==0)&& !fin)))->R (.returned (.bool v)) W2):=h_ fun v h=>FIN.out W2 v (by rw[HV.out,b4,h];rfl) HB2.out
  clear FIN HV h4 CM CN
  by_cases h1:role= -1
  ·have b1:(role== -1)=true:=by simpa using h1
   by_cases h2:need=1
   ·have b2:(need==1)=true:=by simpa using h2
    by_cases h3:grace=0
    ·have b3:(grace==0)=true:=by simpa using h3
     have HG:=h_ (HF.out (!fin) (by rw[b1,b2,b3];rfl))
     clear h1 h2 h3 HF
     go_enter Tryz.func123,Tryz.ntmps123
     go_wp2_with (simp only[E1.out])
     exact HG.out
    ·have b3:(grace==0)=false:=by simpa using h3
     have HG:=h_ (HF.out false (by rw[b3];simp))
     clear h1 h2 h3 HF
     go_enter Tryz.func123,Tryz.ntmps123
     go_wp2_with (simp only[E1.out])
     exact HG.out
   ·have b2:(need==1)=false:=by simpa using h2
    have HG:=h_ (HF.out false (by rw[b2];simp))
    clear h1 h2 HF
    go_enter Tryz.func123,Tryz.ntmps123
    go_wp2_with (simp only[E1.out])
    exact HG.out
  ·have b1:(role== -1)=false:=by simpa using h1
   have HG:=h_ (HF.out false (by rw[b1];simp))
   clear h1 HF
   go_enter Tryz.func123,Tryz.ntmps123
   go_wp2_with (simp only[E1.out])
   exact HG.out
 have b4:(kind==4)=false:=by simpa using h4
 clear h4
 go_enter Tryz.func123,Tryz.ntmps123
 go_wp2_with (first
  |(simp only[E1.out])
  |(refine ae (.tmp 2) ?_;refine Row.still (by first|exact Free.wanted_of rfl rfl rfl|rfl) (Hk.exec_mid 27 (.tmp 2) rfl W.heap.size 0 rfl cs _ HMl.out Tryz.underlying27 rfl HI.out) ?_;simp only[Pt]))
 refine(CM.out _).mono ?_
 rintro e w3 ⟨rfl,hb3⟩
 obtain⟨q0,q1,q2,q3,q4,q5,q6,q7,q8,q9,q10,q11,q12,q13,q14,q15⟩:=HQ.out w3 hb3
 have HM3:=h_ (HM.out w3 hb3)
 have HB3:=h_ (HB2.out.trans (hb3.mono HB2.out.size))
 have HB23:=h_ hb3
 clear hb3 CM HMl q4 q5 q7 q9 q10 q11 q12 q13 q14 q15
 cases RB with
 |false=>
  have HF:=h_ (FIN.out w3 false (by rw[HV.out,b4];rfl) HB3.out)
  clear FIN HV
  go_wp2_with fail
  exact HF.out
 |true=>
 go_wp2_with (refine ae (.tmp 2) ?_;refine Row.still (by first|exact Free.wanted_of rfl rfl rfl|rfl) (Hk.exec_mid 27 (.tmp 2) rfl W.heap.size 0 rfl cs _ HM3.out Tryz.underlying27 rfl HI.out) ?_;simp only[Pt])
 refine(CN.out w3 HB3.out).mono ?_
 rintro e w4 ⟨rfl,hb4⟩
 obtain⟨q0,q1,q2,q3,q4,q5,q6,q7,q8,q9,q10,q11,q12,q13,q14,q15⟩:=HQ.out w4 (HB23.out.trans (hb4.mono HB23.out.size))
 have HB4:=h_ (HB3.out.trans (hb4.mono HB3.out.size))
 clear hb4 CN HM3 q1 q2 q4 q5 q7 q9 q10 q11 q12 q13 q14 q15
 cases NB with
 |true=>
  have HF:=h_ (FIN.out w4 false (by rw[HV.out,b4];rfl) HB4.out)
  clear FIN HV
  go_wp2_with fail
  exact HF.out
 |false=>
 have HF:Hid (∀v,v=(if kind==1 then decide (1<=need)&&(decide (need<=9)&&(decide (0<=grace)&&decide (grace<=400)))
  else if kind==2 then(need==1)&&(grace==0)else if kind==3 then(need==1)&&((grace==0)&& !fin)else false)->R (.returned (.bool v)) w4):=h_ fun v h=>FIN.out w4 v (by rw[HV.out,b4,h];rfl) HB4.out
 clear FIN HV HB3 HB4 HB23 HB2 HM HQ E1 HI
 by_cases k1:kind=1
 ·have b1:(kind==1)=true:=by simpa using k1
  have HG:Hid (∀v,v=(decide (1<=need)&&(decide (need<=9)&&(decide (0<=grace)&&decide (grace<=400))))->R (.returned (.bool v)) w4):=h_ fun v h=>HF.out v (by rw[b1,h];rfl)
  clear k1 HF
  by_cases h1:1<=need
  rotate_left
  ·have d1:decide (1<=need)=false:=decide_eq_false h1
   have HH:=h_ (HG.out false (by rw[d1];rfl))
   clear HG
   go_wp2_with fail
   exact HH.out
  have d1:decide (1<=need)=true:=decide_eq_true h1
  by_cases h2:need<=9
  rotate_left
  ·have d2:decide (need<=9)=false:=decide_eq_false h2
   have HH:=h_ (HG.out false (by rw[d2];simp))
   clear HG
   go_wp2_with fail
   exact HH.out
  have d2:decide (need<=9)=true:=decide_eq_true h2
  by_cases h3:0<=grace
  rotate_left
  ·have d3:decide (0<=grace)=false:=decide_eq_false h3
   have HH:=h_ (HG.out false (by rw[d3];simp))
   clear HG
   go_wp2_with fail
   exact HH.out
  have d3:decide (0<=grace)=true:=decide_eq_true h3
  have HH:=h_ (HG.out (decide (grace<=400)) (by rw[d1,d2,d3];rfl))
  clear HG
  by_cases h5:grace<=400
  ·have d5:decide (grace<=400)=true:=decide_eq_true h5
   rw[d5]at HH
   go_wp2_with fail
   exact HH.out
  ·have d5:decide (grace<=400)=false:=decide_eq_false h5
   rw[d5]at HH
   go_wp2_with fail
   exact HH.out
 have b1:(kind==1)=false:=by simpa using k1
 by_cases k2:kind=2
 ·have b2:(kind==2)=true:=by simpa using k2
  have HG:Hid (∀v,v=((need==1)&&(grace==0))->R (.returned (.bool v)) w4):=h_ fun v h=>HF.out v (by rw[b1,b2,h];rfl)
  clear k1 k2 HF
  by_cases h2:need=1
  ·have c2:(need==1)=true:=by simpa using h2
   have HH:=h_ (HG.out (grace==0) (by rw[c2];rfl))
   clear HG h2
   go_wp2_with fail
   exact HH.out
  ·have c2:(need==1)=false:=by simpa using h2
   have HH:=h_ (HG.out false (by rw[c2];rfl))
   clear HG h2
   go_wp2_with fail
   exact HH.out
 have b2:(kind==2)=false:=by simpa using k2
 by_cases k3:kind=3
 ·have b3:(kind==3)=true:=by simpa using k3
  have HG:Hid (∀v,v=((need==1)&&((grace==0)&& !fin))->R (.returned (.bool v)) w4):=h_ fun v h=>HF.out v (by rw[b1,b2,b3,h];rfl)
  clear k1 k2 k3 HF
  by_cases h2:need=1
  ·have c2:(need==1)=true:=by simpa using h2
   by_cases h3:grace=0
   ·have c3:(grace==0)=true:=by simpa using h3
    have HH:=h_ (HG.out (!fin) (by rw[c2,c3];rfl))
    clear HG h2 h3
    go_wp2_with fail
    exact HH.out
   ·have c3:(grace==0)=false:=by simpa using h3
    have HH:=h_ (HG.out false (by rw[c3];simp))
    clear HG h2 h3
    go_wp2_with fail
    exact HH.out
  ·have c2:(need==1)=false:=by simpa using h2
   have HH:=h_ (HG.out false (by rw[c2];rfl))
   clear HG h2
   go_wp2_with fail
   exact HH.out
 ·have b3:(kind==3)=false:=by simpa using k3
  have HH:=h_ (HF.out false (by rw[b1,b2,b3];rfl))
  clear k1 k2 k3 HF
  go_wp2_with fail
  exact HH.out
end Go.Proofs.YtekfoaenomgjgaaGreatDoor
