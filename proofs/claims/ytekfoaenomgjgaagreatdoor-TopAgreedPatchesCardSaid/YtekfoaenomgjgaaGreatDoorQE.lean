/- Package patch: whether a patch fits. Condition: the patch lies in memory. Package patch: what patches do to clauses. Condition: the clauses lie in a row of one's own, the patch in memory. Package patch: a clause added; a clause replaced. Condition: the clauses lie in a row of one's own, the patch in memory. Package patch: the table of the kinds. No condition. -/
import Derived.Test.YtekfoaenomgjgaaGreatDoorZ9
import Derived.Test.YtekfoaenomgjgaaGreatDoorZ5
import Derived.Test.YtekfoaenomgjgaaGreatDoorZ8
set_option maxRecDepth 100000
set_option linter.all false
namespace Go.Proofs.YtekfoaenomgjgaaGreatDoor
open Go.RowKit Go.W32 Go.Blk Go.Cs Go.Lib Go.Opn Go.Mg Go.Cv

set_option maxHeartbeats 4000000 in
theorem fits_any(c:ConM)(p:Pat)(h:Hd)(ef:Eff)(f:Value)(W:World)(hp:PatAt W p h)(hcl:p.cl.length<=4611686018427387903):Calls Tryz.prog 56 #[.agg (ak c).toArray, .agg (aw p h).toArray, .agg (gq ef f).toArray] W fun e w'=>e= .returned (.bool (dw c.kls.length p ef))/\Below W.heap.size W w':=by
 obtain⟨R,eR⟩:∃R:Ending->World->Prop,R=fun e w'=>e= .returned (.bool (dw c.kls.length p ef))/\Below W.heap.size W w':=⟨_,rfl⟩
 rw[<-eR]
 have FIN:Hid (∀w' v,v=dw c.kls.length p ef->Below W.heap.size W w'->R (.returned (.bool v)) w'):=h_ fun w' v h hb=>by rw[eR,h];exact⟨rfl,hb⟩
 clear eR
 obtain⟨nk,enk⟩:∃nk,nk=c.kls.length:=⟨_,rfl⟩
 obtain⟨cs,ecs⟩:∃cs,cs=ak c:=⟨_,rfl⟩
 obtain⟨ps,eps⟩:∃ps,ps=aw p h:=⟨_,rfl⟩
 obtain⟨es,ees⟩:∃es,es=gq ef f:=⟨_,rfl⟩
 obtain⟨ks,eks⟩:∃ks,ks=aF (p.new,(h.B,h.d)):=⟨_,rfl⟩
 obtain⟨W1,e1⟩:∃W1,W1=((W.alloc (.cells cs.toArray 27)).alloc (.cells ps.toArray 47)).alloc (.cells es.toArray 119):=⟨_,rfl⟩
 have s1:(W.alloc (.cells cs.toArray 27)).heap.size=W.heap.size+1:=by simp
 have s2:((W.alloc (.cells cs.toArray 27)).alloc (.cells ps.toArray 47)).heap.size=W.heap.size+2:=by simp
 have hb1:Below W.heap.size W W1:=by rw[e1];exact(((Below.refl _ _).alloc (Nat.le_refl _) _).alloc (by simp) _).alloc (by rw[s2];omega) _
 have r0:Row W1 W.heap.size 27 cs:=by rw[e1];exact((Row.new W 27 cs).alloc _).alloc _
 have r1:Row W1 (W.heap.size+1) 47 ps:=by rw[e1, <-s1];exact(Row.new _ 47 ps).alloc _
 have r2:Row W1 (W.heap.size+2) 119 es:=by rw[e1, <-s2];exact Row.new _ 119 es
 have HK:Hid (∀w',Below W1.heap.size W1 w'->w'.cell? ⟨W.heap.size,4,none⟩=some (.slice c.kA nk c.kc)/\w'.cell? ⟨W.heap.size+1,1,none⟩=some (.slice h.A p.cl.length h.c)/\w'.cell? ⟨W.heap.size+1,18,none⟩=some (.int .i64 p.days)/\w'.cell? ⟨W.heap.size+2,0,none⟩=some (.int .i64 ef.least)/\w'.cell? ⟨W.heap.size+2,1,none⟩=some (.int .i64 ef.most)/\w'.cell? ⟨W.heap.size+2,2,none⟩=some (.bool ef.renewed)/\w'.cell? ⟨W.heap.size+2,3,none⟩=some (.bool ef.spanned)/\w'.rangeAt (W.heap.size+1) 2 ks/\SL w' 1 Cs.encI h.A p.cl):=h_ fun w' hb=>by
  have q0:=r0.below hb r0.lt
  have q1:=r1.below hb r1.lt
  have q2:=r2.below hb r2.lt
  refine⟨q0.at (by rw[ecs,enk];rfl),q1.at (by rw[eps];rfl),q1.at (by rw[eps];rfl),q2.at (by rw[ees];rfl),q2.at (by rw[ees];rfl),q2.at (by rw[ees];rfl),q2.at (by rw[ees];rfl),q1.range fun j v hj=> ?_,hp.cl.below (hb1.trans (hb.mono hb1.size)) (Nat.le_refl _)⟩
  rw[eps];rw[eks]at hj
  have:j<16:=(List.getElem?_eq_some_iff.1 hj).1
  match j,this with
  |0,_|1,_|2,_|3,_|4,_|5,_|6,_|7,_|8,_|9,_|10,_|11,_|12,_|13,_|14,_|15,_=>exact hj
 have HIK:=h_ (eE ks (by rw[eks];rfl))
 have CZ:=fun w=>zero_any (p.new,(h.B,h.d)) w
 rw[<-eks]at CZ
 have CZ:=h_ CZ
 obtain⟨zb,ezb⟩:∃zb,zb=p.new.same Cls.zero:=⟨_,rfl⟩
 simp only[<-ezb]at CZ
 have HV:Hid (dw c.kls.length p ef=((decide (ef.least<=(p.cl.length:Int))&&decide ((p.cl.length:Int)<=ef.most))&&(cA (nk:Int) (-1) p.cl&&((ef.renewed||zb)&&daysB ef p)))):=h_ (by unfold dw;rw[ezb,enk])
 have E1:Hid (((W.alloc (.cells cs.toArray 27)).alloc (.cells ps.toArray 47)).alloc (.cells es.toArray 119)=W1):=h_ e1.symm
 have HB1:=h_ hb1
 have HCL:=h_ hcl
 obtain⟨k4,p1,p18,g0,g1,g2,g3,_,_⟩:=HK.out W1 (Below.refl _ _)
 rw[<-ecs, <-eps, <-ees]
 clear ecs eps ees eks e1 s1 s2 hb1 r0 r1 r2 hp hcl enk ezb p18
 obtain⟨le,mo,rn,sp⟩:=ef
 simp only at g0 g1 g2 g3 HV FIN HK
 by_cases h1:le<=(p.cl.length:Int)
 rotate_left
 ·have q1:decide (le<=(p.cl.length:Int))=false:=decide_eq_false h1
  have q1':decide ((p.cl.length:Int)<le)=true:=decide_eq_true (by omega)
  have HF:=h_ (FIN.out W1 false (by rw[HV.out];simp[q1]) HB1.out)
  clear FIN HV
  go_enter Tryz.func56,Tryz.ntmps56
  go_wp2_with (simp only[E1.out])
  exact HF.out
 have q1:decide (le<=(p.cl.length:Int))=true:=decide_eq_true h1
 have q1':decide ((p.cl.length:Int)<le)=false:=decide_eq_false (by omega)
 by_cases h2:(p.cl.length:Int)<=mo
 rotate_left
 ·have q2:decide ((p.cl.length:Int)<=mo)=false:=decide_eq_false h2
  have q2':decide (mo<(p.cl.length:Int))=true:=decide_eq_true (by omega)
  have HF:=h_ (FIN.out W1 false (by rw[HV.out];simp[q2]) HB1.out)
  clear FIN HV
  go_enter Tryz.func56,Tryz.ntmps56
  go_wp2_with (simp only[E1.out])
  exact HF.out
 have q2:decide ((p.cl.length:Int)<=mo)=true:=decide_eq_true h2
 have q2':decide (mo<(p.cl.length:Int))=false:=decide_eq_false (by omega)
 have HV4:Hid (dw c.kls.length p ⟨le,mo,rn,sp⟩=(cA (nk:Int) (-1) p.cl&&((rn||zb)&&daysB ⟨le,mo,rn,sp⟩ p))):=h_ (by rw[HV.out,q1,q2];rfl)
 clear HV q1 q2
 go_enter Tryz.func56,Tryz.ntmps56
 go_wp2_with (simp only[E1.out])
 clear k4 p1 g0 g1 g2 g3 q1' q2' h1 h2
 go_loopw [7,27] (fun u v wr=> ∃k:Nat,v= .int .i64 (k:Int)/\k<=p.cl.length/\u= .int .i64 (((p.cl.take k).getLast?).getD (-1))/\Hid (cA (nk:Int) (-1) (p.cl.take k)=true)/\wr=W1) (fun _ v _=>(p.cl.length:Int).toNat- (RowKit.intOf v).toNat)
 case atStart=>exact⟨0,rfl,Nat.zero_le _,rfl,h_ rfl,rfl⟩
 case round=>
  obtain⟨k,rfl,hk,rfl,hal,hwo⟩:=hrel
  subst hwo
  obtain⟨k4,p1,p18,g0,g1,g2,g3,hks,hsl⟩:=HK.out wr (Below.refl _ _)
  rcases Nat.lt_or_eq_of_le hk with hkl|hkl
  ·have hki:(k:Int)<(p.cl.length:Int):=by omega
   have hkb:(k:Int)+1<=9223372036854775807:=by have:=HCL.out;omega
   obtain⟨d,ed⟩:∃x,p.cl[k]? =some x:=⟨_,List.getElem?_eq_getElem hkl⟩
   obtain⟨b,off,eO⟩:=aC hsl (by intro e;rw[e]at hkl;simp at hkl)
   rw[eO]at hsl⊢
   have cd:=bR hsl ed
   have hstep:=gM ed hal.out
   obtain⟨L,eL⟩:∃L,L=((p.cl.take k).getLast?).getD (-1):=⟨_,rfl⟩
   rw[<-eL]at hstep⊢
   have HSTP:=h_ hstep
   have HLAST:Hid (((p.cl.take (k+1)).getLast?).getD (-1)=d):=h_ (by rw[List.take_add_one,ed,Option.toList_some,List.getLast?_append];rfl)
   have HLS:Hid (cA (nk:Int) (-1) (p.cl.take (k+1))=false->cA (nk:Int) (-1) p.cl=false):=h_ fJ
   clear hstep eL ed hsl eO hks hk p1 p18 g0 g1 g2 g3
   by_cases h1:L<d
   rotate_left
   ·have q1:decide (d<=L)=true:=decide_eq_true (by omega)
    have HF:=h_ (FIN.out wr false (by rw[HV4.out,HLS.out (by rw[HSTP.out,decide_eq_false h1];rfl)];rfl) HB1.out)
    clear FIN HV4
    go_wp2_with fail
    exact HF.out
   have q1:decide (d<=L)=false:=decide_eq_false (by omega)
   by_cases h2:d<(nk:Int)
   rotate_left
   ·have q2:decide ((nk:Int)<=d)=true:=decide_eq_true (by omega)
    have HF:=h_ (FIN.out wr false (by rw[HV4.out,HLS.out (by rw[HSTP.out,decide_eq_false h2,Bool.and_false])];rfl) HB1.out)
    clear FIN HV4
    go_wp2_with fail
    exact HF.out
   have q2:decide ((nk:Int)<=d)=false:=decide_eq_false (by omega)
   have HNX:Hid (cA (nk:Int) (-1) (p.cl.take (k+1))=true):=h_ (by rw[HSTP.out,decide_eq_true h1,decide_eq_true h2];rfl)
   go_wp2_with fail
   go_roundw
   case rel=>exact⟨k+1,rfl,hkl,by rw[HLAST.out],HNX,by trivial⟩
   case measure=>simp[RowKit.intOf];omega
  ·have hki: ¬(k:Int)<(p.cl.length:Int):=by omega
   have HV5:Hid (dw c.kls.length p ⟨le,mo,rn,sp⟩=((rn||zb)&&daysB ⟨le,mo,rn,sp⟩ p)):=h_ (by
    have:=hal.out
    rw[List.take_of_length_le (by omega)]at this
    rw[HV4.out,this];rfl)
   have HMK:=h_ hks
   clear HV4 hal hk hks hsl hkl k4 p1 g0 g1
   cases rn with
   |true=>
    have HV6:Hid (dw c.kls.length p ⟨le,mo,true,sp⟩=daysB ⟨le,mo,true,sp⟩ p):=h_ (by rw[HV5.out];rfl)
    clear HV5
    cases sp with
    |true=>
     by_cases hd1:1<=p.days
     rotate_left
     ·have qd1:decide (1<=p.days)=false:=decide_eq_false hd1
      have HF:=h_ (FIN.out wr false (by rw[HV6.out];show false=(decide (1<=p.days)&&decide (p.days<=400));rw[qd1];rfl) HB1.out)
      clear FIN HV6
      go_wp2_with fail
      exact HF.out
     have qd1:decide (1<=p.days)=true:=decide_eq_true hd1
     obtain⟨d2,ed2⟩:∃d2,d2=decide (p.days<=400):=⟨_,rfl⟩
     have HF:=h_ (FIN.out wr d2 (by rw[HV6.out];show d2=(decide (1<=p.days)&&decide (p.days<=400));rw[qd1,ed2];rfl) HB1.out)
     have ED2:=ed2.symm
     clear FIN HV6 ed2
     go_wp2_with fail
     exact HF.out
    |false=>
     obtain⟨d2,ed2⟩:∃d2,d2=(p.days==0):=⟨_,rfl⟩
     have HF:=h_ (FIN.out wr d2 (by rw[HV6.out];exact ed2) HB1.out)
     have ED2:=ed2.symm
     clear FIN HV6 ed2
     go_wp2_with fail
     exact HF.out
   |false=>
    have C:=h_ (CZ.out wr)
    clear CZ
    go_wp2_with (refine ae (.tmp 47) ?_;refine Row.still (by first|exact Free.wanted_of rfl rfl rfl|rfl) (Hk.exec_mid 45 (.tmp 47) rfl (W.heap.size+1) 2 rfl ks _ HMK.out Tryz.underlying45 rfl HIK.out) ?_;simp only[Pt])
    refine C.out.mono ?_
    rintro e w5 ⟨rfl,hb5⟩
    have HB5:=h_ (HB1.out.trans (hb5.mono HB1.out.size))
    obtain⟨k4,p1,p18,g0,g1,g2,g3,_,_⟩:=HK.out w5 hb5
    clear hb5 C HMK k4 p1 g0 g1 g2
    cases zb with
    |false=>
     have HF:=h_ (FIN.out w5 false (by rw[HV5.out];rfl) HB5.out)
     clear FIN HV5
     go_wp2_with fail
     exact HF.out
    |true=>
     have HV6:Hid (dw c.kls.length p ⟨le,mo,false,sp⟩=daysB ⟨le,mo,false,sp⟩ p):=h_ (by rw[HV5.out];rfl)
     clear HV5
     cases sp with
     |true=>
      by_cases hd1:1<=p.days
      rotate_left
      ·have qd1:decide (1<=p.days)=false:=decide_eq_false hd1
       have HF:=h_ (FIN.out w5 false (by rw[HV6.out];show false=(decide (1<=p.days)&&decide (p.days<=400));rw[qd1];rfl) HB5.out)
       clear FIN HV6
       go_wp2_with fail
       exact HF.out
      have qd1:decide (1<=p.days)=true:=decide_eq_true hd1
      obtain⟨d2,ed2⟩:∃d2,d2=decide (p.days<=400):=⟨_,rfl⟩
      have HF:=h_ (FIN.out w5 d2 (by rw[HV6.out];show d2=(decide (1<=p.days)&&decide (p.days<=400));rw[qd1,ed2];rfl) HB5.out)
      have ED2:=ed2.symm
      clear FIN HV6 ed2
      go_wp2_with fail
      exact HF.out
     |false=>
      obtain⟨d2,ed2⟩:∃d2,d2=(p.days==0):=⟨_,rfl⟩
      have HF:=h_ (FIN.out w5 d2 (by rw[HV6.out];exact ed2) HB5.out)
      have ED2:=ed2.symm
      clear FIN HV6 ed2
      go_wp2_with fail
      exact HF.out
end Go.Proofs.YtekfoaenomgjgaaGreatDoor

namespace Go.Proofs.YtekfoaenomgjgaaGreatDoor
open Go.RowKit Go.W32 Go.Blk Go.Cs Go.Lib Go.Opn Go.Mg Go.Cv
structure KlsOwn (w:World) (lo:Nat) (v:Value) (kls:List Kl):Prop where
 row:w.ownsRow lo 45 16 v kls.length (kls.flatMap aF)
 st:∀k∈kls,w.ownsRow lo 133 2 (.slice k.2.1 k.1.start.length k.2.2) k.1.start.length (k.1.start.flatMap ar)
theorem bP(k:Kl):(aF k).length=16:=rfl
theorem KlsOwn.below{w w':World}{lo:Nat}{v:Value}{kls:List Kl}(h:KlsOwn w lo v kls)(hb:Below w.heap.size w w'):KlsOwn w' lo v kls:=
 ⟨owns_keep h.row fun g hg=>hb.block _ (owns_lt h.row hg).2,fun k hk=>owns_keep (h.st k hk) fun g hg=>hb.block _ (owns_lt (h.st k hk) hg).2⟩
theorem KlsOwn.form{w:World}{lo:Nat}{v:Value}{kls:List Kl}(h:KlsOwn w lo v kls):∃A c,v= .slice A kls.length c:=cz h.row
theorem KlsOwn.grown{w w':World}{lo:Nat}{v v':Value}{kls kls':List Kl}(h:KlsOwn w lo v kls)(hg:w.grownBy w' v.ownBlock)(hr:w'.ownsRow lo 45 16 v' kls'.length (kls'.flatMap aF))
  (hs:∀k∈kls',(∃k0∈kls,k.2=k0.2/\k.1.start=k0.1.start)\/w'.ownsRow lo 133 2 (.slice k.2.1 k.1.start.length k.2.2) k.1.start.length (k.1.start.flatMap ar)):KlsOwn w' lo v' kls':=
 ⟨hr,fun k hk=>by
  rcases hs k hk with⟨k0,hk0,e2,e1⟩|h1
  ·rw[e2,e1]
   have h0:=h.st k0 hk0
   refine owns_keep h0 fun g hgg=>hg.block g (owns_lt h0 hgg).2 fun e=> ?_
   exact cv h0 h.row (by decide) hgg e.symm
  ·exact h1⟩
def fQ(p:Pat)(kls:List Kl)(lo:Nat)(W:World)(e:Ending)(w':World):Prop:=
 ∃v' kls',e= .returned v'/\KlsOwn w' lo v' kls'/\kls'.map Prod.fst=upd p (kls.map Prod.fst)/\kls'.length<=kls.length+1/\Below lo W w'
theorem upF_nth{n:Int}:∀ {l:List Int} {last:Int} {k:Nat} {d:Int},cA n last l=true->l[k]? =some d->last<d/\d<n
 | [],_,_,_,_,h=>by simp at h
 |x::r,last,0,d,ho,h=>by
  simp at h;subst h
  simp only[cA,Bool.and_eq_true,decide_eq_true_eq]at ho
  exact ho.1
 |x::r,last,k+1,d,ho,h=>by
  simp only[cA,Bool.and_eq_true,decide_eq_true_eq]at ho
  have:=upF_nth ho.2 (by simpa using h)
  omega
structure FoldIs (lo:Nat) (W W1:World) (f:Cls->Cls) (p:Pat) (ps:List Value) (kls:List Kl) (A:Option Addr) (c:Nat) (k:Nat) (kls':List Kl) (w:World):Prop where
 own:KlsOwn w lo (.slice A kls.length c) kls'
 len:kls'.length=kls.length
 val:kls'.map Prod.fst=(p.cl.take k).foldl (setAt f) (kls.map Prod.fst)
 box:Row w W.heap.size 47 ps
 below:Below lo W1 w
theorem map_set1(f:Cls->Cls)(l:List Kl)(i:Nat){e:Kl}(h:l[i]? =some e):(l.set i (f e.1,e.2)).map Prod.fst=(l.map Prod.fst).modify i f:=by
 rw[List.map_set]
 apply List.ext_getElem?
 intro j
 rw[List.getElem?_set,List.getElem?_modify,List.length_map,List.getElem?_map]
 by_cases hj:i=j
 ·subst hj
  have hl:=(List.getElem?_eq_some_iff.1 h).1
  rw[h];simp[hl]
 ·simp[hj]
theorem FoldIs.next{lo:Nat}{W W1 w:World}{f:Cls->Cls}{p:Pat}{ps:List Value}{kls:List Kl}{g c k i q:Nat}{kls':List Kl}{e:Kl}{u:Value}(hlo:lo<=W.heap.size)(h:FoldIs lo W W1 f p ps kls (some ⟨g,0,none⟩) c k kls' w)(hk:p.cl[k]? =some (i:Int))(he:kls'[i]? =some e)(hq:q<16)
  (hu:(aF e).set q u=aF (f e.1,e.2)) (hst:(f e.1).start=e.1.start) (hg:g<W.heap.size):FoldIs lo W W1 f p ps kls (some ⟨g,0,none⟩) c (k+1) (kls'.set i (f e.1,e.2)) (w.setCell ⟨g,i*16+q,none⟩ u):=by
 have hr:=h.own.row
 rw[<-h.len]at hr
 obtain⟨h1,g1⟩:=Sel.own_cell bP hr i q he (f e.1,e.2) u hq hu
 have hlen:(kls'.set i (f e.1,e.2)).length=kls.length:=by rw[List.length_set,h.len]
 have hown:KlsOwn (w.setCell ⟨g,i*16+q,none⟩ u) lo (.slice (some ⟨g,0,none⟩) kls.length c) (kls'.set i (f e.1,e.2)):=by
  refine h.own.grown (w':=w.setCell ⟨g,i*16+q,none⟩ u) g1 (by rw[h.len]at h1;rw[hlen];exact h1) fun k hk=> .inl ?_
  rcases List.mem_or_eq_of_mem_set hk with hk|rfl
  ·exact⟨k,hk,rfl,rfl⟩
  ·exact⟨e,List.mem_of_getElem? he,rfl,hst⟩
 have hgl:=(World.ownsRow.lt h.own.row g rfl)
 refine⟨hown,hlen, ?_,h.box.keep (g1.block _ h.box.lt (fun e=>by injection e with e;omega)),h.below.trans (aq (a:=⟨g,i*16+q,none⟩) hgl.1 u)⟩
 rw[map_set1 f _ _ he,h.val,List.take_add_one,hk,Option.toList_some,List.foldl_append]
 rfl
set_option maxHeartbeats 2000000 in
theorem waive_any(p:Pat)(h:Hd)(lo:Nat)(v:Value)(kls:List Kl)(W:World)(hlo:lo<=W.heap.size)(hk:KlsOwn W lo v kls)(hp:∀w',Below lo W w'->PatAt w' p h)(hcl:p.cl.length<=4611686018427387903)(ho:cA (kls.length:Int) (-1) p.cl=true)(hkd:p.kind≠1/\p.kind≠2/\p.kind≠5):
  Calls Tryz.prog 88 #[v, .agg (aw p h).toArray] W (fQ p kls lo W):=by
  obtain⟨R,eR⟩:∃R,R=fQ p kls lo W:=⟨_,rfl⟩
  rw[<-eR]
  have FIN:Hid (∀w' A c kls',FoldIs lo W (W.alloc (.cells (aw p h).toArray 47)) Cls.waive p (aw p h) kls A c p.cl.length kls' w'->R (.returned (.slice A kls.length c)) w'):=h_ fun w' A c kls' hf=>by
   rw[eR]
   refine⟨_,kls',rfl,hf.own, ?_,by rw[hf.len];omega,((Below.refl _ _).alloc hlo _).trans hf.below⟩
   rw[hf.val,List.take_length]
   unfold upd
   rw[if_neg hkd.1,if_neg hkd.2.1,if_neg hkd.2.2]
  clear eR
  obtain⟨A,c,rfl⟩:=hk.form
  obtain⟨ps,eps⟩:∃ps,ps=aw p h:=⟨_,rfl⟩
  obtain⟨W1,e1⟩:∃W1,W1=W.alloc (.cells ps.toArray 47):=⟨_,rfl⟩
  have hb1:Below W.heap.size W W1:=by rw[e1];exact(Below.refl _ _).alloc (Nat.le_refl _) _
  have r1:Row W1 W.heap.size 47 ps:=by rw[e1];exact Row.new _ _ _
  have h0:FoldIs lo W W1 Cls.waive p ps kls A c 0 kls W1:=⟨hk.below hb1,rfl,rfl,r1,Below.refl _ _⟩
  have HP:Hid (∀w',Row w' W.heap.size 47 ps->w'.cell? ⟨W.heap.size,1,none⟩=some (.slice h.A p.cl.length h.c)/\w'.cell? ⟨W.heap.size,18,none⟩=some (.int .i64 p.days)):=h_ fun w' hr=>⟨hr.at (by rw[eps];rfl),hr.at (by rw[eps];rfl)⟩
  have HSL:Hid (∀w',Below lo W1 w'->SL w' 1 Cs.encI h.A p.cl):=h_ fun w' hb=>(hp w' (((Below.refl _ _).alloc hlo _).trans (by rw[<-e1];exact hb))).cl
  have hgA:∀g,A=some ⟨g,0,none⟩->g<W.heap.size:=fun g e=>(World.ownsRow.lt hk.row g (by rw[e];rfl)).2
  have hform:kls.length≠0->∃g,A=some ⟨g,0,none⟩:=fun hn=>by
   rcases hk.row.2 with⟨_,h2⟩|⟨g,cap,cur,h2,_⟩
   ·exact absurd h2 hn
   ·injection h2 with h2 _;exact⟨g,h2⟩
  have HGA:=h_ hgA
  have HFM:=h_ hform
  have E1:Hid (W.alloc (.cells ps.toArray 47)=W1):=h_ e1.symm
  rw[<-eps, <-e1]at FIN
  rw[<-eps]
  have H0:=h_ h0
  have HO:=h_ ho
  have HCL:=h_ hcl
  have HLO:=h_ hlo
  obtain⟨p1,_⟩:=HP.out W1 r1
  clear hp hk hb1 r1 h0 ho hcl hlo hgA hform e1 eps
  go_enter Tryz.func88,Tryz.ntmps88
  go_wp2_with (simp only[E1.out])
  clear p1
  go_loopw [10] (fun v wr=> ∃(k:Nat) (kls':List Kl),v= .int .i64 (k:Int)/\k<=p.cl.length/\FoldIs lo W W1 Cls.waive p ps kls A c k kls' wr) (fun v _=>(p.cl.length:Int).toNat- (RowKit.intOf v).toNat)
  case atStart=>exact⟨0,kls,rfl,Nat.zero_le _,H0.out⟩
  case round=>
   obtain⟨k,kls',rfl,hkk,hf⟩:=hrel
   rcases Nat.lt_or_eq_of_le hkk with hkl|hkl
   ·have hki:(k:Int)<(p.cl.length:Int):=by omega
    have hkb:(k:Int)+1<=9223372036854775807:=by have:=HCL.out;omega
    obtain⟨d,ed⟩:∃x,p.cl[k]? =some x:=⟨_,List.getElem?_eq_getElem hkl⟩
    have hd:=upF_nth HO.out ed
    obtain⟨i,rfl⟩:∃i:Nat,d=(i:Int):=⟨d.toNat,by omega⟩
    have hin:i<kls.length:=by omega
    obtain⟨g,rfl⟩:=HFM.out (by omega)
    have hsl:=HSL.out wr hf.below
    obtain⟨b,off,eO⟩:=aC hsl (by intro e;rw[e]at hkl;simp at hkl)
    rw[eO]at hsl⊢
    have cd:=bR hsl ed
    obtain⟨e,ee⟩:∃x,kls'[i]? =some x:=⟨_,List.getElem?_eq_getElem (by rw[hf.len];exact hin)⟩
    have hrow:=hf.own.row
    rw[hf.len]at hrow
    have cw:=hrow.cellAt (i*16+15) (by omega)
    rw[Sel.flat_at bP ee (show(aF e)[15]? =some (.bool e.1.waived) from rfl)]at cw
    have fw:=hrow.frozenAt (i*16+15)
    obtain⟨p1,p18⟩:=HP.out wr hf.box
    have HN:=h_ (hf.next (q:=15) (u:=(.bool true)) HLO.out ed ee (by decide) rfl rfl (HGA.out g rfl))
    have hii:(i:Int)<(kls.length:Int):=by omega
    clear hf hrow hsl eO ed ee hd hkk
    go_wp2_with fail
    go_roundw
    case rel=>exact⟨k+1,_,rfl,hkl,HN.out⟩
    case measure=>simp[RowKit.intOf];omega
   ·have hki: ¬(k:Int)<(p.cl.length:Int):=by omega
    have HF:=h_ (FIN.out wr A c kls' (by rw[<-hkl];exact hf))
    clear FIN hf hkk hkl
    go_wp2_with fail
    exact HF.out
set_option maxHeartbeats 2000000 in
theorem span_any(p:Pat)(h:Hd)(lo:Nat)(v:Value)(kls:List Kl)(W:World)(hlo:lo<=W.heap.size)(hk:KlsOwn W lo v kls)(hp:∀w',Below lo W w'->PatAt w' p h)(hcl:p.cl.length<=4611686018427387903)(ho:cA (kls.length:Int) (-1) p.cl=true)(hkd:p.kind=5):
  Calls Tryz.prog 91 #[v, .agg (aw p h).toArray] W (fQ p kls lo W):=by
  obtain⟨R,eR⟩:∃R,R=fQ p kls lo W:=⟨_,rfl⟩
  rw[<-eR]
  have FIN:Hid (∀w' A c kls',FoldIs lo W (W.alloc (.cells (aw p h).toArray 47)) (Cls.span p.days) p (aw p h) kls A c p.cl.length kls' w'->R (.returned (.slice A kls.length c)) w'):=h_ fun w' A c kls' hf=>by
   rw[eR]
   refine⟨_,kls',rfl,hf.own, ?_,by rw[hf.len];omega,((Below.refl _ _).alloc hlo _).trans hf.below⟩
   rw[hf.val,List.take_length]
   unfold upd
   rw[hkd];rfl
  clear eR
  obtain⟨A,c,rfl⟩:=hk.form
  obtain⟨ps,eps⟩:∃ps,ps=aw p h:=⟨_,rfl⟩
  obtain⟨W1,e1⟩:∃W1,W1=W.alloc (.cells ps.toArray 47):=⟨_,rfl⟩
  have hb1:Below W.heap.size W W1:=by rw[e1];exact(Below.refl _ _).alloc (Nat.le_refl _) _
  have r1:Row W1 W.heap.size 47 ps:=by rw[e1];exact Row.new _ _ _
  have h0:FoldIs lo W W1 (Cls.span p.days) p ps kls A c 0 kls W1:=⟨hk.below hb1,rfl,rfl,r1,Below.refl _ _⟩
  have HP:Hid (∀w',Row w' W.heap.size 47 ps->w'.cell? ⟨W.heap.size,1,none⟩=some (.slice h.A p.cl.length h.c)/\w'.cell? ⟨W.heap.size,18,none⟩=some (.int .i64 p.days)):=h_ fun w' hr=>⟨hr.at (by rw[eps];rfl),hr.at (by rw[eps];rfl)⟩
  have HSL:Hid (∀w',Below lo W1 w'->SL w' 1 Cs.encI h.A p.cl):=h_ fun w' hb=>(hp w' (((Below.refl _ _).alloc hlo _).trans (by rw[<-e1];exact hb))).cl
  have hgA:∀g,A=some ⟨g,0,none⟩->g<W.heap.size:=fun g e=>(World.ownsRow.lt hk.row g (by rw[e];rfl)).2
  have hform:kls.length≠0->∃g,A=some ⟨g,0,none⟩:=fun hn=>by
   rcases hk.row.2 with⟨_,h2⟩|⟨g,cap,cur,h2,_⟩
   ·exact absurd h2 hn
   ·injection h2 with h2 _;exact⟨g,h2⟩
  have HGA:=h_ hgA
  have HFM:=h_ hform
  have E1:Hid (W.alloc (.cells ps.toArray 47)=W1):=h_ e1.symm
  rw[<-eps, <-e1]at FIN
  rw[<-eps]
  have H0:=h_ h0
  have HO:=h_ ho
  have HCL:=h_ hcl
  have HLO:=h_ hlo
  obtain⟨p1,_⟩:=HP.out W1 r1
  clear hp hk hb1 r1 h0 ho hcl hlo hgA hform e1 eps
  go_enter Tryz.func91,Tryz.ntmps91
  go_wp2_with (simp only[E1.out])
  clear p1
  go_loopw [10] (fun v wr=> ∃(k:Nat) (kls':List Kl),v= .int .i64 (k:Int)/\k<=p.cl.length/\FoldIs lo W W1 (Cls.span p.days) p ps kls A c k kls' wr) (fun v _=>(p.cl.length:Int).toNat- (RowKit.intOf v).toNat)
  case atStart=>exact⟨0,kls,rfl,Nat.zero_le _,H0.out⟩
  case round=>
   obtain⟨k,kls',rfl,hkk,hf⟩:=hrel
   rcases Nat.lt_or_eq_of_le hkk with hkl|hkl
   ·have hki:(k:Int)<(p.cl.length:Int):=by omega
    have hkb:(k:Int)+1<=9223372036854775807:=by have:=HCL.out;omega
    obtain⟨d,ed⟩:∃x,p.cl[k]? =some x:=⟨_,List.getElem?_eq_getElem hkl⟩
    have hd:=upF_nth HO.out ed
    obtain⟨i,rfl⟩:∃i:Nat,d=(i:Int):=⟨d.toNat,by omega⟩
    have hin:i<kls.length:=by omega
    obtain⟨g,rfl⟩:=HFM.out (by omega)
    have hsl:=HSL.out wr hf.below
    obtain⟨b,off,eO⟩:=aC hsl (by intro e;rw[e]at hkl;simp at hkl)
    rw[eO]at hsl⊢
    have cd:=bR hsl ed
    obtain⟨e,ee⟩:∃x,kls'[i]? =some x:=⟨_,List.getElem?_eq_getElem (by rw[hf.len];exact hin)⟩
    have hrow:=hf.own.row
    rw[hf.len]at hrow
    have cw:=hrow.cellAt (i*16+5) (by omega)
    rw[Sel.flat_at bP ee (show(aF e)[5]? =some (.int .i64 e.1.after) from rfl)]at cw
    have fw:=hrow.frozenAt (i*16+5)
    obtain⟨p1,p18⟩:=HP.out wr hf.box
    have HN:=h_ (hf.next (q:=5) (u:=(.int .i64 p.days)) HLO.out ed ee (by decide) rfl rfl (HGA.out g rfl))
    have hii:(i:Int)<(kls.length:Int):=by omega
    clear hf hrow hsl eO ed ee hd hkk
    go_wp2_with fail
    go_roundw
    case rel=>exact⟨k+1,_,rfl,hkl,HN.out⟩
    case measure=>simp[RowKit.intOf];omega
   ·have hki: ¬(k:Int)<(p.cl.length:Int):=by omega
    have HF:=h_ (FIN.out wr A c kls' (by rw[<-hkl];exact hf))
    clear FIN hf hkk hkl
    go_wp2_with fail
    exact HF.out
end Go.Proofs.YtekfoaenomgjgaaGreatDoor

namespace Go.Proofs.YtekfoaenomgjgaaGreatDoor
open Go.RowKit Go.W32 Go.Blk Go.Cs Go.Lib Go.Opn Go.Mg Go.Cv

theorem info_kl:(Tryz.prog.info? 45).map (fun i=>(i.zero,i.size,i.bytes))=some (some (.agg (aF (Cls.zero,(none,0))).toArray),16,136):=by kernel_rfl
theorem ks_range{w:World}{b:Nat}{T:TypeId}{p:Pat}{h:Hd}(hr:Row w b T (aw p h)):w.rangeAt b 2 (aF (p.new,(h.B,h.d))):=hr.range fun j v hj=>by
 have:j<16:=(List.getElem?_eq_some_iff.1 hj).1
 match j,this with
 |0,_|1,_|2,_|3,_|4,_|5,_|6,_|7,_|8,_|9,_|10,_|11,_|12,_|13,_|14,_|15,_=>exact hj
set_option maxHeartbeats 2000000 in
theorem add_any(p:Pat)(h:Hd)(lo:Nat)(v:Value)(kls:List Kl)(W:World)(hlo:lo<=W.heap.size)(hk:KlsOwn W lo v kls)(hp:∀w',Below lo W w'->PatAt w' p h)(hst:p.new.start.length<=1000000)(hn:kls.length<=4000)(hkd:p.kind=1):
  Calls Tryz.prog 89 #[v, .agg (aw p h).toArray] W (fQ p kls lo W):=by
 obtain⟨R,eR⟩:∃R,R=fQ p kls lo W:=⟨_,rfl⟩
 rw[<-eR]
 have FIN:Hid (∀w' v' kls',KlsOwn w' lo v' kls'->kls'.map Prod.fst=kls.map Prod.fst++ [p.new]->kls'.length=kls.length+1->Below lo W w'->R (.returned v') w'):=h_ fun w' v' kls' ho hm hl hb=>by
  rw[eR]
  refine⟨_,kls',rfl,ho, ?_,by omega,hb⟩
  rw[hm];unfold upd;rw[if_pos hkd]
 clear eR hkd
 obtain⟨A,c,rfl⟩:=hk.form
 obtain⟨ps,eps⟩:∃ps,ps=aw p h:=⟨_,rfl⟩
 obtain⟨ks,eks⟩:∃ks,ks=aF (p.new,(h.B,h.d)):=⟨_,rfl⟩
 obtain⟨W1,e1⟩:∃W1,W1=W.alloc (.cells ps.toArray 47):=⟨_,rfl⟩
 have hb1:Below W.heap.size W W1:=by rw[e1];exact(Below.refl _ _).alloc (Nat.le_refl _) _
 have r1:Row W1 W.heap.size 47 ps:=by rw[e1];exact Row.new _ _ _
 have HMK:Hid (W1.rangeAt (W.heap.size) 2 ks):=h_ (by rw[eks];exact ks_range (T:=47) (by rw[<-eps];exact r1))
 have HIK:=h_ (eE ks (by rw[eks];rfl))
 have hbl:Below lo W W1:=by rw[e1];exact(Below.refl _ _).alloc hlo _
 have CC:=gd (p.new,(h.B,h.d)) W1 (hp W1 hbl).st hst
 rw[<-eks]at CC
 have CC:=h_ CC
 have HK1:=h_ (hk.below hb1)
 have HBL:=h_ hbl
 have HLO:Hid (lo<=W1.heap.size):=h_ (Nat.le_trans hlo hb1.size)
 have E1:Hid (W.alloc (.cells ps.toArray 47)=W1):=h_ e1.symm
 have HN:=h_ hn
 rw[<-eps]
 clear hk hp e1 eps r1 hb1 hbl hlo hst eks hn
 go_enter Tryz.func89,Tryz.ntmps89
 go_wp2_with (first
  |(simp only[E1.out])
  |(refine ae (.tmp 6) ?_;refine wpList_load_mid rfl 45 (.tmp 6) rfl W.heap.size 2 rfl ks _ HMK.out Tryz.underlying45 rfl HIK.out ?_))
 refine CC.out.mono ?_
 rintro e w2 ⟨A',c',rfl,ho2,hb2⟩
 obtain⟨k2,ek2⟩:∃k2:Kl,k2=(p.new,(A',c')):=⟨_,rfl⟩
 obtain⟨ds,eds⟩:∃ds,ds=aF k2:=⟨_,rfl⟩
 have hk2:KlsOwn w2 lo (.slice A kls.length c) kls:=HK1.out.below hb2
 have hnew:w2.ownsRow lo 133 2 (.slice k2.2.1 k2.1.start.length k2.2.2) k2.1.start.length (k2.1.start.flatMap ar):=by rw[ek2];exact ap ho2 HLO.out
 have hdl:ds.length=16:=by rw[eds];rfl
 have hd1:∀v∈ds,v.oneCell'=true:=by rw[eds];exact cr _
 obtain⟨i1,hi1,hz1,hs1,hy1⟩:=bG info_kl
 obtain⟨W8,e8⟩:∃W8,W8=w2.alloc (.cells ds.toArray 45):=⟨_,rfl⟩
 have hb8:Below w2.heap.size w2 W8:=by rw[e8];exact(Below.refl _ _).alloc (Nat.le_refl _) _
 have hr8:Row W8 w2.heap.size 45 ds:=by rw[e8];exact Row.new _ _ _
 have hk8:=hk2.below hb8
 have hnew8:=owns_keep (w':=W8) hnew fun g hg=>hb8.block _ (owns_lt hnew hg).2
 have HBS:Hid ((Instr.buildSlice 25 1 #[(0, .agg ds.toArray)]).run Tryz.prog w2= .ok (.slice (some ⟨w2.heap.size,0,none⟩) 1 1) W8):=h_ (by
  rw[e8]
  exact Apk.run_slice_one (P:=Tryz.prog) w2 25 45 i1 _ Tryz.underlying25 hi1 hz1 ds.toArray (by rw[List.size_toArray,hdl,hs1]) (by rw[hs1];decide) (by rw[hs1];decide))
 have hb28:Below lo W W8:=(HBL.out.trans (hb2.mono HLO.out)).trans (hb8.mono (Nat.le_trans HLO.out hb2.size))
 have hlo8:lo<=W8.heap.size:=Nat.le_trans (Nat.le_trans HLO.out hb2.size) hb8.size
 have HAP:Hid (∀(Q:Exit->Act->World->Prop) (ops:Array Oper) (rs:List Oper) (o:Oper) (a:Act),o.guard=none->o.op= .call {callee:= .builtin .append,args:= #[.tmp 5, .tmp 9],argTypes:= #[25,25]}->a.eval (.tmp 5)= .slice A kls.length c->a.eval (.tmp 9)= .slice (some ⟨w2.heap.size,0,none⟩) 1 1->(∀u w9,Hid (KlsOwn w9 lo u (kls++ [k2])/\Below lo W w9)->wpList Tryz.prog ops Q rs (a.put o.dst u) w9)->wpList Tryz.prog ops Q (o::rs) a W8):=h_ (by
  intro Q ops rs o a hgd ho hx hy hK
  refine wpList_append_own_at W8 hgd (.tmp 5) (.tmp 9) 25 ho lo 45 i1 _ 16 136 Tryz.underlying25 hi1 hz1 hs1 hy1 rfl (by decide) (.slice A kls.length c) _ _ hx hk8.row ⟨w2.heap.size,0,none⟩ 1 1 ds hy (by rw[hdl]) (fun j u hj=>by rw[Blk.addr_add,Nat.zero_add];exact hr8.at hj) hd1 (by have:=HN.out;unfold maxLen;omega) (by have:=HN.out;omega) hlo8 ?_
  intro u w9 ho9 hg9 _ _
  refine hK u w9 (h_ ⟨?_,hb28.trans (aj hg9 (fun g hg=>(owns_lt hk8.row hg).1) hlo8)⟩)
  refine hk8.grown (w':=w9) hg9 (by rw[List.length_append,List.flatMap_append,List.flatMap_singleton, <-eds];exact ho9) fun k hkm=> ?_
  rcases List.mem_append.1 hkm with hkm|hkm
  ·exact .inl ⟨k,hkm,rfl,rfl⟩
  ·rw[List.mem_singleton]at hkm
   subst hkm
   exact .inr (owns_keep hnew8 fun g hg=>hg9.block g (owns_lt hnew8 hg).2 fun e=>cv hnew8 hk8.row (by decide) hg e.symm))
 have HFK:Hid ((kls++ [k2]).map Prod.fst=kls.map Prod.fst++ [p.new]):=h_ (by rw[List.map_append,ek2];rfl)
 have HDS:Hid ((aF (p.new,(A',c'))).toArray=ds.toArray):=h_ (by rw[eds,ek2])
 rw[HDS.out]
 clear ho2 hb2 hk2 hnew hdl hd1 hi1 hz1 hs1 hy1 e8 hb8 hr8 hk8 hnew8 eds ek2 hb28 hlo8 CC HK1 HDS
 go_wp2_with (first
  |(refine at_bs (.tmp 8) ?_;refine Row.moved rfl (Apl.exec_slice rfl HBS.out) ?_;simp only[Pt])
  |(refine at_app (.tmp 5) (.tmp 9) ?_;refine HAP.out _ _ _ _ _ rfl rfl rfl rfl ?_;intro u w9 H9;simp only[Pt]))
 exact FIN.out _ _ _ H9.out.1 HFK.out (by rw[List.length_append];rfl) H9.out.2
set_option maxHeartbeats 2000000 in
theorem replace_any(p:Pat)(h:Hd)(lo:Nat)(v:Value)(kls:List Kl)(W:World)(hlo:lo<=W.heap.size)(hk:KlsOwn W lo v kls)(hp:∀w',Below lo W w'->PatAt w' p h)(hst:p.new.start.length<=1000000)(hn:kls.length<=4000)(ho:cA (kls.length:Int) (-1) p.cl=true)(hcl:p.cl.length=1)(hkd:p.kind=2):
  Calls Tryz.prog 90 #[v, .agg (aw p h).toArray] W (fQ p kls lo W):=by
 obtain⟨R,eR⟩:∃R,R=fQ p kls lo W:=⟨_,rfl⟩
 rw[<-eR]
 obtain⟨d,ed⟩:∃d,p.cl= [d]:=List.length_eq_one_iff.1 hcl
 have hd:=upF_nth ho (show p.cl[0]? =some d by rw[ed];rfl)
 obtain⟨i,rfl⟩:∃i:Nat,d=(i:Int):=⟨d.toNat,by omega⟩
 have FIN:Hid (∀w' v' kls',KlsOwn w' lo v' kls'->kls'.map Prod.fst=(kls.map Prod.fst).set i p.new->kls'.length=kls.length->Below lo W w'->R (.returned v') w'):=h_ fun w' v' kls' ho hm hl hb=>by
  rw[eR]
  refine⟨_,kls',rfl,ho, ?_,by omega,hb⟩
  rw[hm];unfold upd;rw[hkd,ed];rfl
 clear eR hkd
 obtain⟨A,c,rfl⟩:=hk.form
 have hil:i<kls.length:=by omega
 obtain⟨g,rfl⟩:∃g,A=some ⟨g,0,none⟩:=by
  rcases hk.row.2 with⟨_,h2⟩|⟨g,cap,cur,h2,_⟩
  ·omega
  ·injection h2 with h2 _;exact⟨g,h2⟩
 obtain⟨ps,eps⟩:∃ps,ps=aw p h:=⟨_,rfl⟩
 obtain⟨ks,eks⟩:∃ks,ks=aF (p.new,(h.B,h.d)):=⟨_,rfl⟩
 obtain⟨W1,e1⟩:∃W1,W1=W.alloc (.cells ps.toArray 47):=⟨_,rfl⟩
 have hb1:Below W.heap.size W W1:=by rw[e1];exact(Below.refl _ _).alloc (Nat.le_refl _) _
 have r1:Row W1 W.heap.size 47 ps:=by rw[e1];exact Row.new _ _ _
 have HIK:=h_ (eE ks (by rw[eks];rfl))
 have hbl:Below lo W W1:=by rw[e1];exact(Below.refl _ _).alloc hlo _
 have hsl:=(hp W1 hbl).cl
 rw[ed]at hsl
 obtain⟨b,off,eO⟩:=aC hsl (by simp)
 have cd:=bR (by rw[eO]at hsl;exact hsl) (show([(i:Int)]:List Int)[0]? =some (i:Int) from rfl)
 rw[Nat.add_zero]at cd
 have HB:Hid (∀w',Below W1.heap.size W1 w'->Below lo W1 w'/\w'.cell? ⟨W.heap.size,1,none⟩=some (.slice (some ⟨b,off,none⟩) 1 h.c)/\w'.cell? ⟨b,off,none⟩=some (.int .i64 (i:Int))/\w'.rangeAt W.heap.size 2 ks/\SL w' 2 ar h.B p.new.start):=h_ fun w' hb=>by
  have q:=r1.below hb r1.lt
  refine⟨hb.mono (Nat.le_trans hlo hb1.size),q.at (by rw[eps, <-eO];show some (clV p h)=_;unfold clV;rw[ed];rfl), ?_, ?_, ?_⟩
  ·rw[hb.cell (World.block_lt_of_cell? W1 _ cd)];exact cd
  ·rw[eks];exact ks_range (T:=47) (by rw[<-eps];exact q)
  ·exact(hp w' (hbl.trans (hb.mono (Nat.le_trans hlo hb1.size)))).st
 have CC:Hid (∀w',SL w' 2 ar h.B p.new.start->Calls Tryz.prog 57 #[.agg ks.toArray] w' (CpPost (p.new,(h.B,h.d)) w')):=h_ fun w' hs=>by
  rw[eks];exact gd (p.new,(h.B,h.d)) w' hs hst
 have HK1:=h_ (hk.below hb1)
 have HBL:=h_ hbl
 have HLO:Hid (lo<=W1.heap.size):=h_ (Nat.le_trans hlo hb1.size)
 have E1:Hid (W.alloc (.cells ps.toArray 47)=W1):=h_ e1.symm
 obtain⟨qB,q1,q2,q3,q4⟩:=HB.out W1 (Below.refl _ _)
 rw[<-eps]
 have hii:(i:Int)<(kls.length:Int):=by omega
 have HIL:=h_ hil
 clear hk hp e1 eps r1 hb1 hbl hlo hst eks hsl eO cd ed hd ho hcl hil hn
 go_enter Tryz.func90,Tryz.ntmps90
 go_wp2_with (simp only[E1.out])
 refine Free.wp_region_free 9 [(7, .ind (fun x=> .agg (aF (p.new,Sel.slN x)).toArray) (fun x w2=>w2.ownsRow lo 133 2 (.slice (Sel.slN x).1 p.new.start.length (Sel.slN x).2) p.new.start.length (p.new.start.flatMap ar)))] (fun w2=>Below W1.heap.size W1 w2) (by kernel_rfl) (by kernel_rfl) ?_ (Below.refl _ _).drew (fun w1 w2 h g=>h.trans (Below.mono g h.size)) ?_
 ·intro j mk r hf x w1 w2 hr rr
  simp only[Free.find]at hf
  split at hf
  ·cases hf
   exact owns_keep hr fun g hg=>rr.block _ (owns_lt hr hg).2
  ·cases hf
 simp only[List.take_succ_cons,List.take_zero]
 clear qB q1 q2 q3 q4
 iterate 6 (apply Free.chain_still (by first|exact Free.wanted_of rfl rfl rfl|rfl) rfl;(intro w' hB hA;obtain⟨_,q1,q2,_,_⟩:=HB.out w' hB;clear hA hB;go_light;go_simp<;>rfl);(try simp only[Pt]))
 apply Free.chain_still (by first|exact Free.wanted_of rfl rfl rfl|rfl) rfl
 ·intro w' hB hA
  exact Hk.exec_mid 45 (.tmp 10) rfl W.heap.size 2 rfl ks _ (HB.out w' hB).2.2.2.1 Tryz.underlying45 rfl HIK.out
 simp only[Pt]
 apply Free.chain_ind (by first|exact Free.wanted_of rfl rfl rfl|rfl) rfl
 ·intro w' hB hA
  refine Free.opRun_call (f:=57) (args:= #[.agg ks.toArray]) (by clear hB hA;go_simp<;>rfl) ?_
  refine(CC.out w' (HB.out w' hB).2.2.2.2).mono ?_
  rintro e w3 ⟨A',c',rfl,ho3,hb3⟩
  obtain⟨x,hx⟩:=Sel.slN_ex ho3
  refine⟨_,rfl,hb3,x,by rw[hx], ?_⟩
  rw[hx]
  exact ap ho3 (Nat.le_trans HLO.out hB.size)
 intro x
 simp only[Pt]
 obtain⟨k2,ek2⟩:∃k2:Kl,k2=(p.new,Sel.slN x):=⟨_,rfl⟩
 obtain⟨ds,eds⟩:∃ds,ds=aF k2:=⟨_,rfl⟩
 have HDS:Hid ((aF (p.new,Sel.slN x)).toArray=ds.toArray):=h_ (by rw[eds,ek2])
 rw[HDS.out]
 iterate 1 (apply Free.chain_still (by first|exact Free.wanted_of rfl rfl rfl|rfl) rfl;(intro w' hB hA;obtain⟨_,q1,q2,_,_⟩:=HB.out w' hB;clear hA hB;go_light;go_simp<;>rfl);(try simp only[Pt]))
 apply Free.chain_nil
 intro w1 hB1 hg hh
 have hnew:=hh _ List.mem_cons_self
 simp only at hnew
 simp only[List.drop_succ_cons,List.drop_zero]
 have hk1:=HK1.out.below hB1
 have hb1:Below lo W w1:=HBL.out.trans (hB1.mono HLO.out)
 have hlo1:lo<=w1.heap.size:=Nat.le_trans HLO.out hB1.size
 have HSE:Hid (∀(Q:Exit->Act->World->Prop) (ops:Array Oper) (rest:List Oper) (o:Oper) (a:Act),o.guard=none->o.op= .store 45 (.tmp 13) (.tmp 12)->a.eval (.tmp 13)= .pointer (some ⟨g,i*16,none⟩)->a.eval (.tmp 12)= .agg ds.toArray->(∀w9,Hid (KlsOwn w9 lo (.slice (some ⟨g,0,none⟩) kls.length c) (kls.set i k2)/\Below lo W w9)->wpList Tryz.prog ops Q rest (a.put o.dst undef) w9)->wpList Tryz.prog ops Q (o::rest) a w1):=h_ (by
  intro Q ops rest o a hgd ho hx hy hK
  refine Sel.wpList_store_elem hgd 45 (.tmp 13) (.tmp 12) ho bP (fun k=>cr k) hk1.row i HIL.out k2 hx (by rw[hy,eds]) (by kernel_rfl) ?_
  intro w9 o9 g9 _
  refine hK w9 (h_ ⟨?_,hb1.trans (aj g9 (fun g hg=>(owns_lt hk1.row hg).1) hlo1)⟩)
  refine hk1.grown (w':=w9) g9 (by rw[List.length_set];exact o9) fun k hkm=> ?_
  rcases List.mem_or_eq_of_mem_set hkm with hkm|rfl
  ·exact .inl ⟨k,hkm,rfl,rfl⟩
  ·refine .inr ?_
   rw[ek2]
   exact owns_keep hnew fun g hg=>g9.block g (owns_lt hnew hg).2 fun e=>cv hnew hk1.row (by decide) hg e.symm)
 have HFK:Hid ((kls.set i k2).map Prod.fst=(kls.map Prod.fst).set i p.new):=h_ (by rw[List.map_set,ek2])
 clear hnew hk1 hb1 hlo1 hh hg hB1 eds ek2
 go_wp2_with (refine ai (.tmp 13) ?_;refine HSE.out _ _ _ _ _ rfl rfl rfl rfl ?_;intro w9 H9;simp only[Pt])
 exact FIN.out _ _ _ H9.out.1 HFK.out (by rw[List.length_set]) H9.out.2
end Go.Proofs.YtekfoaenomgjgaaGreatDoor

namespace Go.Mk
open Go Go.RowKit Go.MapKept Go.Maps Go.ChangeMaps
theorem wpList_insert{P:Program}{w:World}{t k e:TypeId}{α β:Type}{enc:α->Value}{ok:α->Prop}{encV:β->Value}{b:Nat}{l:List (α×β)}{ops:Array Oper}{rest:List Oper}{o:Oper}{a:Act}{Q:Exit->Act->World->Prop}[DecidableEq α](hg:o.guard=none)(m x v:Operand)(hop:o.op=Op.insert t m x v)(K:Key P k enc ok)(h:MapIs w enc ok encV b l)(ht:P.underlying t=some (.map k e))(xi:α)(hx:ok xi)(vi:β)
  (hm:a.eval m= .map (some b)) (hxe:a.eval x=enc xi) (hve:a.eval v=encV vi)
  (hK:∀w',MapIs w' enc ok encV b (put l xi vi)->w.grownBy w' (some b)->w'.heap.size=w.heap.size->wpList P ops Q rest (a.put o.dst undef) w'):wpList P ops Q (o::rest) a w:=by
 refine wpList_plain hg fun K' hK'=> ?_
 obtain⟨w',hrun,r1,r2,r3⟩:=h.store K ht hx vi
 unfold Oper.wp
 simp[execOp,hop,hm,hxe,hve,hrun,Result.andThen]
 exact hK' _ _ (hK w' r1 r2 r3)
theorem at_ins{P:Program}{ops:Array Oper}{rest:List Oper}{a:Act}{Q:Exit->Act->World->Prop}(v:Operand){t:TypeId}{m x:Operand}{d:Option Tmp}{ty:TypeId}{ps:String}{af:Array Edge}{g:Option (Nat×Bool)}{w:World}
  (h:wpList P ops Q (⟨d, .insert t m x v,ty,ps,af,g⟩::rest) a w):wpList P ops Q (⟨d, .insert t m x v,ty,ps,af,g⟩::rest) a w:=h
end Go.Mk
namespace Go.Proofs.YtekfoaenomgjgaaGreatDoor
open Go.RowKit Go.W32 Go.Blk Go.Cs Go.Lib Go.Opn Go.Mg Go.Cv

def encE(x:Eff×Value):Value:= .agg (gq x.1 x.2).toArray
def fnV(f:Nat):Value:= .func (.func f) #[] #[]
def effL:List (Int×(Eff×Value)):= [(1,(⟨0,0,true,false⟩,fnV 89)),(2,(⟨1,1,true,false⟩,fnV 90)),(3,(⟨1,1,false,false⟩,fnV 88)),(4,(⟨1,400,false,false⟩,fnV 88)),(5,(⟨1,400,false,true⟩,fnV 91))]
theorem eff_map(k:Int):(Mk.get effL k).map Prod.fst=gc k:=by
 unfold effL gc
 simp only[Mk.get]
 by_cases h1:k=1
 ·subst h1;rfl
 by_cases h2:k=2
 ·subst h2;rfl
 by_cases h3:k=3
 ·subst h3;rfl
 by_cases h4:k=4
 ·subst h4;rfl
 by_cases h5:k=5
 ·subst h5;rfl
 have g1: ¬(1:Int)=k:=fun e=>h1 e.symm
 have g2: ¬(2:Int)=k:=fun e=>h2 e.symm
 have g3: ¬(3:Int)=k:=fun e=>h3 e.symm
 have g4: ¬(4:Int)=k:=fun e=>h4 e.symm
 have g5: ¬(5:Int)=k:=fun e=>h5 e.symm
 simp[g1,g2,g3,g4,g5,h1,h2,h3,h4,h5]
set_option maxHeartbeats 2000000 in
theorem effects_any(W:World):Calls Tryz.prog 55 #[] W fun e w'=>e= .returned (.map (some W.heap.size))/\Mk.MapIs w' nV bn encE W.heap.size effL/\Below W.heap.size W w'/\w'.heap.size=W.heap.size+1:=by
 obtain⟨R,eR⟩:∃R:Ending->World->Prop,R=fun e w'=>e= .returned (.map (some W.heap.size))/\Mk.MapIs w' nV bn encE W.heap.size effL/\Below W.heap.size W w'/\w'.heap.size=W.heap.size+1:=⟨_,rfl⟩
 rw[<-eR]
 have hmm:= @run_makeMap Tryz.prog
 have H0:Hid (Mk.MapIs (W.alloc (.map #[] 0)) nV bn encE W.heap.size []):=h_ (Mk.MapIs.made W)
 have G0:Hid (Below W.heap.size W (W.alloc (.map #[] 0))):=h_ ((Below.refl _ _).alloc (Nat.le_refl _) _)
 have S0:Hid ((W.alloc (.map #[] 0)).heap.size=W.heap.size+1):=h_ (by simp)
 have ER:=h_ eR
 clear eR
 go_enter Tryz.func55,Tryz.ntmps55
 go_wp2_with (first
  |(refine Mk.at_ins (.tmp 3) ?_;refine Mk.wpList_insert rfl (.tmp 2) _ (.tmp 3) rfl eC H0.out Tryz.underlying121 (1:Int) ⟨by decide,by decide⟩ ((⟨0,0,true,false⟩:Eff),fnV 89) rfl rfl rfl ?_;intro w1 h1 g1 s1;have H1:=h_ h1;have S1:=h_ (s1.trans S0.out);have G1:Hid (Below W.heap.size W w1):=h_ (G0.out.trans (aj g1 (fun g hg=>Nat.le_of_eq (Option.some.inj hg)) G0.out.size));clear h1 g1 s1;simp only[Pt])
  |(refine Mk.at_ins (.tmp 4) ?_;refine Mk.wpList_insert rfl (.tmp 2) _ (.tmp 4) rfl eC H1.out Tryz.underlying121 (2:Int) ⟨by decide,by decide⟩ ((⟨1,1,true,false⟩:Eff),fnV 90) rfl rfl rfl ?_;intro w2 h2 g2 s2;have H2:=h_ h2;have S2:=h_ (s2.trans S1.out);have G2:Hid (Below W.heap.size W w2):=h_ (G1.out.trans (aj g2 (fun g hg=>Nat.le_of_eq (Option.some.inj hg)) G1.out.size));clear h2 g2 s2;simp only[Pt])
  |(refine Mk.at_ins (.tmp 6) ?_;refine Mk.wpList_insert rfl (.tmp 2) _ (.tmp 6) rfl eC H2.out Tryz.underlying121 (3:Int) ⟨by decide,by decide⟩ ((⟨1,1,false,false⟩:Eff),fnV 88) rfl rfl rfl ?_;intro w3 h3 g3 s3;have H3:=h_ h3;have S3:=h_ (s3.trans S2.out);have G3:Hid (Below W.heap.size W w3):=h_ (G2.out.trans (aj g3 (fun g hg=>Nat.le_of_eq (Option.some.inj hg)) G2.out.size));clear h3 g3 s3;simp only[Pt])
  |(refine Mk.at_ins (.tmp 8) ?_;refine Mk.wpList_insert rfl (.tmp 2) _ (.tmp 8) rfl eC H3.out Tryz.underlying121 (4:Int) ⟨by decide,by decide⟩ ((⟨1,400,false,false⟩:Eff),fnV 88) rfl rfl rfl ?_;intro w4 h4 g4 s4;have H4:=h_ h4;have S4:=h_ (s4.trans S3.out);have G4:Hid (Below W.heap.size W w4):=h_ (G3.out.trans (aj g4 (fun g hg=>Nat.le_of_eq (Option.some.inj hg)) G3.out.size));clear h4 g4 s4;simp only[Pt])
  |(refine Mk.at_ins (.tmp 9) ?_;refine Mk.wpList_insert rfl (.tmp 2) _ (.tmp 9) rfl eC H4.out Tryz.underlying121 (5:Int) ⟨by decide,by decide⟩ ((⟨1,400,false,true⟩:Eff),fnV 91) rfl rfl rfl ?_;intro w5 h5 g5 s5;have H5:=h_ h5;have S5:=h_ (s5.trans S4.out);have G5:Hid (Below W.heap.size W w5):=h_ (G4.out.trans (aj g5 (fun g hg=>Nat.le_of_eq (Option.some.inj hg)) G4.out.size));clear h5 g5 s5;simp only[Pt]))
 rw[ER.out]
 exact⟨rfl,H5.out,G5.out,S5.out⟩
end Go.Proofs.YtekfoaenomgjgaaGreatDoor
