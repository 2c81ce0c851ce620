/- Opening a state of performance that is a law's argument; the law of patches, for its card. Condition: as TpB. -/
import Derived.Test.YtekfoaenomgjgaaGreatDoorSzB
import Derived.Test.YtekfoaenomgjgaaGreatDoorQC
set_option linter.all false
set_option maxRecDepth 100000
namespace Go.Proofs.YtekfoaenomgjgaaGreatDoor
open Go.RowKit Go.W32 Go.Blk Go.Cs Go.Lib Go.Opn Go.Mg Go.Cv

def f2:Value->Array Value
 | .tuple #[.agg a,_]=>a
 |_=> #[]
def n2:Value->Int
 | .tuple #[_, .int _ n]=>n
 |_=>0
def Stands(T:TypeId)(IR:Value->World->Prop):Prop:=∀y w w',IR y w->(∀(g:Nat) (cs:Array Value) (t:TypeId),w.heap[g]? =some (Obj.cells cs t (0,0))->t≠T->w'.heap[g]? =w.heap[g]?)->IR y w'
structure Cx (ii ib is_ base:Nat) (T:TypeId) (zs:List Value) (IR:Value->World->Prop) (d:Nat->Option Value) (w:World):Prop where
 bs:base<=w.heap.size
 ord:d is_≠none->d ii≠none/\d ib≠none
 inf:∀y,d ii=some y->IR y w
 box:∀z,d ib=some z->base<=gN z/\(d is_=none->Row w (gN z) T zs)/\(d is_≠none->∀y,d ii=some y->Row w (gN z) T (f2 y).toList)
section
variable {ii ib is_ base:Nat} {T:TypeId} {zs:List Value} {IR:Value->World->Prop} {d:Nat->Option Value} {w w':World}
theorem Stands.grow(hS:Stands T IR){y:Value}(h:IR y w)(hb:Below w.heap.size w w'):IR y w':=hS y w w' h fun g _ _ hg _=>hb.block g (Array.getElem?_eq_some_iff.1 hg).1
theorem Cx.grow(hS:Stands T IR)(h:Cx ii ib is_ base T zs IR d w)(hb:Below w.heap.size w w'):Cx ii ib is_ base T zs IR d w':=
 ⟨Nat.le_trans h.bs hb.size,h.ord,fun y e=>hS.grow (h.inf y e) hb,fun z e=>⟨(h.box z e).1,fun n=>((h.box z e).2.1 n).below hb ((h.box z e).2.1 n).lt,fun n y e2=>((h.box z e).2.2 n y e2).below hb ((h.box z e).2.2 n y e2).lt⟩⟩
theorem Cx.other(h:Cx ii ib is_ base T zs IR d w){k:Nat}{x:Value}(h3:k≠ii)(h4:k≠ib)(h5:k≠is_):Cx ii ib is_ base T zs IR (Fre6.upd d k x) w:=by
 refine⟨h.bs, ?_, ?_, ?_⟩
 all_goals simp only[updN h3.symm,updN h4.symm,updN h5.symm]
 ·exact h.ord
 ·exact h.inf
 ·exact h.box
theorem Cx.early(h:Cx ii ib is_ base T zs IR d w)(hd:d ii=none):d is_=none:=by
 cases e:d is_ with
 |none=>rfl
 |some x=>exact absurd hd (h.ord (by rw[e];simp)).1
theorem Cx.early2(h:Cx ii ib is_ base T zs IR d w)(hd:d ib=none):d is_=none:=by
 cases e:d is_ with
 |none=>rfl
 |some x=>exact absurd hd (h.ord (by rw[e];simp)).2
theorem Cx.putI(h:Cx ii ib is_ base T zs IR d w){x:Value}(hd:d ii=none)(hx:IR x w)(h4:ii≠ib)(h5:ii≠is_):Cx ii ib is_ base T zs IR (Fre6.upd d ii x) w:=by
 have hs:=h.early hd
 refine⟨h.bs, ?_, ?_, ?_⟩
 all_goals simp only[updE,updN h4.symm,updN h5.symm]
 ·intro n;exact absurd hs n
 ·rintro y e;cases e;exact hx
 ·intro z e;exact⟨(h.box z e).1,(h.box z e).2.1,fun n=>absurd hs n⟩
theorem Cx.putB(h:Cx ii ib is_ base T zs IR d w){x:Value}(hd:d ib=none)(hx:base<=gN x)(hr:Row w (gN x) T zs)(h3:ib≠ii)(h5:ib≠is_):Cx ii ib is_ base T zs IR (Fre6.upd d ib x) w:=by
 have hs:=h.early2 hd
 refine⟨h.bs, ?_, ?_, ?_⟩
 all_goals simp only[updE,updN h3.symm,updN h5.symm]
 ·intro n;exact absurd hs n
 ·exact h.inf
 ·rintro z e;cases e;exact⟨hx,fun _=>hr,fun n=>absurd hs n⟩
theorem Cx.putS(hS:Stands T IR)(h:Cx ii ib is_ base T zs IR d w){x y z:Value}(hd:d is_=none)(hi:d ii=some y)(hb:d ib=some z)(h3:is_≠ii)(h4:is_≠ib):
  Below base w (w.setRow (gN z) (f2 y))/\Cx ii ib is_ base T zs IR (Fre6.upd d is_ x) (w.setRow (gN z) (f2 y)):=by
 obtain⟨b1,b2,_⟩:=h.box z hb
 have hr:=b2 hd
 have hne:∀k,k≠gN z->(w.setRow (gN z) (f2 y)).heap[k]? =w.heap[k]? :=fun k hk=>setRow_other hk
 refine⟨⟨rfl,rfl,rfl,by simp[World.setRow],fun k hk=>hne k (by omega)⟩,by have:=h.bs;simp[World.setRow];exact this, ?_, ?_, ?_⟩
 all_goals simp only[updE,updN h3.symm,updN h4.symm]
 ·intro _;rw[hi,hb];simp
 ·intro y' e
  refine hS _ _ _ (h.inf y' e) fun g cs t hg ht=>hne g fun e2=> ?_
  subst e2
  rw[show w.heap[gN z]? =_ from hr]at hg
  injection hg with hg
  injection hg with _ hg
  exact ht hg.symm
 ·intro z' e
  rw[hb]at e
  cases e
  refine⟨b1,fun n=>(by cases n),fun _ y' e=> ?_⟩
  rw[hi]at e
  cases e
  exact setRow_heap _ _ _ (f2 y) _ _ hr
end
set_option maxHeartbeats 2000000 in
theorem exec_neMar{ρ:Operand->Value}{op:Oper}{w:World}{x y:Operand}{a b:Mar}{Z:Bool}(ho:op.op= .binOp .neq 66 x y 66)(hx:ρ x= .agg (ah a).toArray)(hy:ρ y= .agg (ah b).toArray)(hZ:Z= !a.same b):
  (execOp ρ op).run Tryz.prog w= .ok (.value (.bool Z)) w:=by
 subst hZ
 unfold execOp
 simp only[ho,hx,hy]
 obtain⟨a1,a2,a3,a4,a5⟩:=a
 obtain⟨b1,b2,b3,b4,b5⟩:=b
 unfold ah Mar.same
 by_cases h1:a1=b1
 ·by_cases h2:a2=b2
  ·by_cases h3:a3=b3
   ·by_cases h4:a4=b4
    ·cases a5<;>cases b5<;>(go_simp<;>simp[h1,h2,h3,h4])
    ·go_simp<;>simp[h1,h2,h3,h4]
   ·go_simp<;>simp[h1,h2,h3]
  ·go_simp<;>simp[h1,h2]
 ·go_simp<;>simp[h1]
def IrA(c:Con)(p:Pat)(y:Value)(w:World):Prop:=∃(c':ConM) (n:Int),y= .tuple #[.agg (ak c').toArray, .int .i64 n]/\((n=0/\bf c p=some c'.con/\ConOw 0 w c')\/(n≠0/\bf c p=none))
theorem fa(c:Con)(p:Pat):Stands 27 (IrA c p):=by
 rintro y w w' ⟨c',n,e,h⟩ hk
 refine⟨c',n,e, ?_⟩
 rcases h with⟨h1,h2,h3⟩|h
 ·refine .inl ⟨h1,h2,h3.keep fun g T hg _ hT _=> ?_⟩
  obtain⟨cs,t,rfl,hne⟩:=hT
  exact hk g cs t hg hne
 ·exact .inr h
theorem irA_of{c:ConM}{p:Pat}{W w:World}{e:Ending}(h:ApPost c p W e w):Below W.heap.size W w/\∃y,e= .returned y/\IrA c.con p y w:=by
 obtain⟨hb,c',n,rfl,h⟩:=h
 refine⟨hb,_,rfl,c',n,rfl, ?_⟩
 rcases h with⟨h1,h2,h3⟩|h
 ·exact .inl ⟨h1,h2,h3.mono (Nat.zero_le _)⟩
 ·exact .inr h
def IrM(c:Con)(p:Pat)(s:Sta)(d:Con)(y:Value)(w:World):Prop:=∃s':StaM,y= .tuple #[.agg (aE s').toArray, .int .i64 0]/\MgO c p s d 0 w s'
theorem fW{w w':World}{lo:Nat}{T T':TypeId}{sz n:Nat}{v:Value}{xs:List Value}(h:w.ownsRow lo T' sz v n xs)(hT:T'≠T)(hk:∀(g:Nat) (cs:Array Value) (t:TypeId),w.heap[g]? =some (Obj.cells cs t (0,0))->t≠T->w'.heap[g]? =w.heap[g]?):w'.ownsRow lo T' sz v n xs:=
 owns_keep h fun g hg=>by
  rcases h.2 with⟨rfl,_⟩|⟨g1,_,cur,rfl,_,h2,_⟩
  ·cases hg
  ·have:g1=g:=Option.some.inj hg
   subst this
   exact hk _ _ _ h2 hT
theorem eY(c:Con)(p:Pat)(s:Sta)(d:Con):Stands 56 (IrM c p s d):=by
 rintro y w w' ⟨s',e,h1,h2,h3,h4,h5,h6⟩ hk
 exact⟨s',e,h1,h2,h3,h4,h5,fW h6.h (by decide) hk,fW h6.u (by decide) hk,fW h6.m (by decide) hk⟩
theorem irM_of{c:Con}{p:Pat}{s:Sta}{d:Con}{W w:World}{e:Ending}(h:MiPost c p s d W e w):Below W.heap.size W w/\∃y,e= .returned y/\IrM c p s d y w:=by
 obtain⟨hb,s',rfl,h1,h2,h3,h4,h5,h6⟩:=h
 exact⟨hb,_,rfl,s',rfl,h1,h2,h3,h4,h5,h6.mono (Nat.zero_le _)⟩
end Go.Proofs.YtekfoaenomgjgaaGreatDoor
namespace Go.Proofs.YtekfoaenomgjgaaGreatDoor
open Go.RowKit Go.W32 Go.Blk Go.Cs Go.Lib Go.Opn Go.Mg Go.Cv

set_option maxHeartbeats 16000000 in
theorem topp_any(c:ConM)(A:Option Addr)(k:Nat)(l:List Rl)(s:StaM)(W:World)(hT:HasT W)(hc:ConAt W c)(hz:ConSz c)(hl:SL W 25 ay A l)(hn:l.length<=9223372036854775807)(hok:di 20 l=true->LetsAt W A l)(hs:StaAt W s):
  Calls Tryz.prog 5 #[.agg (ak c).toArray, .slice A l.length k, .agg (aE s).toArray] W fun e w'=>e= .returned (.bool true)/\Below W.heap.size W w':=by
 obtain⟨R,eR⟩:∃R:Ending->World->Prop,R=fun e w'=>e= .returned (.bool true)/\Below W.heap.size W w':=⟨_,rfl⟩
 rw[<-eR]
 have FIN:Hid (∀w',Below W.heap.size W w'->R (.returned (.bool true)) w'):=h_ fun w' hb=>by rw[eR];exact⟨rfl,hb⟩
 clear eR
 obtain⟨cs,ecs⟩:∃cs,cs=ak c:=⟨_,rfl⟩
 obtain⟨ss,ess⟩:∃ss,ss=aE s:=⟨_,rfl⟩
 obtain⟨hr1,hr2,hb1⟩:=bu W 27 56 cs ss
 rw[<-ecs, <-ess]
 generalize eW:(W.alloc (.cells cs.toArray 27)).alloc (.cells ss.toArray 56)=W1 at*
 have E1:=h_ eW
 have HK:Hid (∀w',Below W1.heap.size W1 w'->w'.rangeAt W.heap.size 0 cs/\w'.rangeAt (W.heap.size+1) 0 ss/\Below W.heap.size W w'/\w'.cell? ⟨W.heap.size,0,none⟩=some (.int .i64 c.parties)/\w'.cell? ⟨W.heap.size+1,3,none⟩=some (.slice s.mA s.marks.length s.mc)/\W.heap.size+1<w'.heap.size):=h_ fun w' hb=>⟨(hr1.below hb hr1.lt).rg,(hr2.below hb hr2.lt).rg,hb1.trans (hb.mono hb1.size),(hr1.below hb hr1.lt).at (by rw[ecs];rfl),(hr2.below hb hr2.lt).at (by rw[ess];rfl),(hr2.below hb hr2.lt).lt⟩
 have CW:=h_ (w11_any W1 (hT.below hb1 (Nat.le_refl _)))
 have HT:=h_ hT
 have HC:=h_ hc
 have HZ:=h_ hz
 have HL:=h_ hl
 have HOK:=h_ hok
 have HS:=h_ hs
 have HIC:=h_ (aK cs (by rw[ecs];rfl))
 have HIS:=h_ (dc ss (by rw[ess];rfl))
 have ECS:=h_ ecs
 have ESS:=h_ ess
 clear eW hr1 hr2 hb1 ecs ess hT hc hz hl hok hs
 go_enter Tryz.func5,Tryz.ntmps5
 go_wp2_with (simp only[E1.out])
 refine CW.out.mono ?_
 rintro e w2 ⟨rfl,hb2⟩
 have CS:=small15_any 12 c w2 (HC.out.below (HK.out w2 hb2).2.2.1 (Nat.le_refl _)) HZ.out (by decide)
 rw[<-ECS.out]at CS
 have CS:=h_ CS
 have HM2:=h_ (HK.out w2 hb2).1
 have HB2:=h_ hb2
 clear CW hb2 E1
 go_wp2_with (refine ae (.tmp 3) ?_;refine wpList_load_mid rfl 27 (.tmp 3) rfl W.heap.size 0 rfl cs _ HM2.out Tryz.underlying27 rfl HIC.out ?_)
 refine CS.out.mono ?_
 rintro e w3 ⟨rfl,hb3⟩
 have HB3:=h_ (HB2.out.trans (hb3.mono HB2.out.size))
 clear CS hb3 HM2 HB2
 cases hsc:dY 12 c with
 |false=>
  have HFI:=h_ (FIN.out _ (HK.out w3 HB3.out).2.2.1)
  go_wp2_with fail
  exact HFI.out
 |true=>
 have CL:=h_ (sl_any 20 A k l w3 (HL.out.below (HK.out w3 HB3.out).2.2.1 (Nat.le_refl _)) hn (by decide))
 clear hsc
 go_wp2_with fail
 refine CL.out.mono ?_
 rintro e w4 ⟨rfl,hb4⟩
 have HB4:=h_ (HB3.out.trans (hb4.mono HB3.out.size))
 clear CL hb4 HB3
 cases hsl:di 20 l with
 |false=>
  have HFI:=h_ (FIN.out _ (HK.out w4 HB4.out).2.2.1)
  go_wp2_with fail
  exact HFI.out
 |true=>
 have HLA:=h_ (HOK.out hsl)
 have HSL:=h_ hsl
 have HLN:Hid (l.length<=20):=h_ (by
  have h:=hsl
  unfold di at h
  simp only[Bool.and_eq_true,decide_eq_true_eq]at h
  exact h.1)
 have HM4:=h_ (HK.out w4 HB4.out).2.1
 have CF:=few_any15 s w4
 rw[<-ESS.out]at CF
 have CF:=h_ CF
 clear hsl HOK
 go_wp2_with (refine ae (.tmp 5) ?_;refine Row.still (by first|exact Free.wanted_of rfl rfl rfl|rfl) (Hk.exec_mid 56 (.tmp 5) rfl (W.heap.size+1) 0 rfl ss _ HM4.out Tryz.underlying56 rfl HIS.out) ?_;simp only[Pt])
 refine CF.out.mono ?_
 rintro e w5 ⟨rfl,hb5⟩
 have HB5:=h_ (HB4.out.trans (hb5.mono HB4.out.size))
 clear CF hb5 HB4 HM4
 cases hfw:fewB s with
 |false=>
  have HFI:=h_ (FIN.out _ (HK.out w5 HB5.out).2.2.1)
  go_wp2_with fail
  exact HFI.out
 |true=>
 have CV:=sysv_any c s w5 (HC.out.below (HK.out w5 HB5.out).2.2.1 (Nat.le_refl _)) HZ.out (HS.out.below (HK.out w5 HB5.out).2.2.1 (Nat.le_refl _))
 rw[<-ECS.out, <-ESS.out]at CV
 have CV:=h_ CV
 have HM5:=h_ (HK.out w5 HB5.out).1
 have HN5:=h_ (HK.out w5 HB5.out).2.1
 clear hfw
 go_wp2_with (first
  |(refine ae (.tmp 3) ?_;refine Row.still (by first|exact Free.wanted_of rfl rfl rfl|rfl) (Hk.exec_mid 27 (.tmp 3) rfl W.heap.size 0 rfl cs _ HM5.out Tryz.underlying27 rfl HIC.out) ?_;simp only[Pt])
  |(refine ae (.tmp 5) ?_;refine Row.still (by first|exact Free.wanted_of rfl rfl rfl|rfl) (Hk.exec_mid 56 (.tmp 5) rfl (W.heap.size+1) 0 rfl ss _ HN5.out Tryz.underlying56 rfl HIS.out) ?_;simp only[Pt]))
 refine CV.out.mono ?_
 rintro e w6 ⟨rfl,hb6⟩
 have HB6:=h_ (HB5.out.trans (hb6.mono HB5.out.size))
 clear CV hb6 HB5 HM5 HN5
 cases hsv:sysB c.con s.sta with
 |false=>
  have HFI:=h_ (FIN.out _ (HK.out w6 HB6.out).2.2.1)
  go_wp2_with fail
  exact HFI.out
 |true=>
 have HSV:=h_ hsv
 have q0:=(HK.out w6 HB6.out).2.2.2.1
 have CG:=h_ (ag_any c.parties A k l w6 (HT.out.below (HK.out w6 HB6.out).2.2.1 (Nat.le_refl _)) (HLA.out.below (HK.out w6 HB6.out).2.2.1 (Nat.le_refl _)) (by have:=HLN.out;omega))
 clear hsv
 go_wp2_with fail
 refine CG.out.mono ?_
 rintro e w7 ⟨hb7,A7,k7,am,rfl,hsa,hpa,hma,hla⟩
 have HAM:Hid (∀x∈am,PatOk x.1.x.patch/\x.1.x.patch.new.start.length<=1000000):=h_ fun x hx=>by
  have hq:x.1∈df DG c.parties l:=by rw[<-hma];exact List.mem_map_of_mem hx
  obtain⟨_,⟨r,hr,_,h2,_⟩,_⟩:=agreed_mem DG c.parties hq
  rw[h2]
  exact⟨(HLA.out.ok r hr).patch,small_start HSL.out r hr⟩
 have HB7:=h_ (HB6.out.trans (hb7.mono HB6.out.size))
 have HSA:=h_ hsa
 have HPA:=h_ hpa
 have HLN7:=h_ hla
 clear hb7 hsa hpa hma hla CG q0 HB6
 go_wp2_with fail
 go_loopw [9] (fun v wr=> ∃i:Nat,v= .int .i64 (i:Int)/\i<=am.length/\Below w7.heap.size w7 wr) (fun v _=>am.length- (RowKit.intOf v).toNat)
 case atStart=>exact⟨0,rfl,Nat.zero_le _,Below.refl _ _⟩
 case round=>
  obtain⟨i,rfl,hi,hbw⟩:=hrel
  have hib:(i:Int)<=4000:=by have:=HLN7.out;omega
  rcases Nat.lt_or_eq_of_le hi with hil|hil
  rotate_left
  ·have hki: ¬(i:Int)<(am.length:Int):=by omega
   have HF:=h_ (FIN.out wr (HK.out wr (HB7.out.trans (hbw.mono HB7.out.size))).2.2.1)
   clear FIN hbw hi
   go_wp2_with fail
   exact HF.out
  have hki:(i:Int)<(am.length:Int):=by omega
  have hi0:(0:Int)<=(i:Int):=by omega
  obtain⟨x,ex⟩:∃x,am[i]? =some x:=⟨_,List.getElem?_eq_getElem hil⟩
  obtain⟨pp,ep⟩:∃pp,pp=x.1.x.patch:=⟨_,rfl⟩
  obtain⟨ps,eps⟩:∃ps,ps=aw pp x.2:=⟨_,rfl⟩
  have hAx:=HAM.out x (List.mem_of_getElem? ex)
  rw[<-ep]at hAx
  have hkd:bn pp.kind:=hAx.1.nums _ (by unfold Pat.nums;simp)
  have hsl:=HSA.out.below hbw (Nat.le_refl _)
  obtain⟨ab,ao,eA⟩:=aC hsl (by intro e;rw[e]at hil;simp at hil)
  rw[eA]at hsl⊢
  have HW8:Hid (∀w',Below wr.heap.size wr w'->Below W1.heap.size W1 w'):=h_ fun w' hb=>HB7.out.trans ((hbw.trans (hb.mono hbw.size)).mono HB7.out.size)
  have HPT:Hid (∀w',Below wr.heap.size wr w'->w'.rangeAt ab (ao+i*22+3) ps/\PatAt w' pp x.2):=h_ fun w' hb=>by
   have h1:=az (hsl.below hb (Nat.le_refl _)) ex
   refine⟨fun j v hj=> ?_,by rw[ep];exact(HPA.out x (List.mem_of_getElem? ex)).below (hbw.trans (hb.mono hbw.size)) (Nat.le_refl _)⟩
   have h2:=h1 (3+j) v (by rw[eps,ep]at hj;unfold bH;rw[List.getElem?_append_right (by simp)];simpa using hj)
   rw[<-Nat.add_assoc]at h2;exact h2
  have HIP:Hid ((Tryz.prog.info? 47).map (·.size)=some ps.length):=h_ (by rw[eps];kernel_rfl)
  have EPS:=h_ eps
  have HAX:=h_ hAx
  have HKD:=h_ hkd
  have HBW:=h_ hbw
  have HWS:=h_ (Nat.le_refl wr.heap.size)
  clear ex eps hAx hkd hsl eA hbw hi
  go_wp2_with fail
  letI:Fre2.Rel:=⟨fun w w'=>Below wr.heap.size w w',fun w=>Below.refl _ _,fun a b c h g=>h.trans g⟩
  refine Fre6.wp_region_free 13 [(6, .ind (fun y=> .tuple #[.agg (f2 y), .int .i64 (n2 y)]) (fun _ _=>True)),(10, .ind (fun y=> .pointer (some ⟨gN y,0,none⟩)) (fun _ _=>True)),(11, .det undef)] (fun w'=>Below wr.heap.size wr w') (Cx 6 10 11 wr.heap.size 27 (ak gF) (IrA c.con pp)) (by kernel_rfl) (by kernel_rfl) ?_ (Below.refl _ _).drew (fun _ _ h r=>h.trans r)
   ⟨Nat.le_refl _,fun n=>absurd rfl n,fun _ e=>(by cases e),fun _ e=>(by cases e)⟩ (fun kk x d w hk hc=> ?_) ?_
  ·intro j mk r hf x w1 w3 _ _
   simp only[Fre6.find]at hf
   repeat' split at hf
   all_goals first|(cases hf;done)|(cases hf;trivial)
  ·simp only[Fre6.find]at hk
   repeat' split at hk
   all_goals first|(cases hk;done)|skip
   exact hc.other (by omega) (by omega) (by omega)
  intro u
  simp only[List.take_succ_cons,List.take_zero]
  apply Fre6.chain_still (by first|exact Free.wanted_of rfl rfl rfl|rfl) rfl
  ·intro w' hB hA
   exact Hk.exec_mid 27 (.tmp 3) rfl W.heap.size 0 rfl cs _ (HK.out w' (HW8.out w' hB)).1 Tryz.underlying27 rfl HIC.out
  simp only[Pt]
  iterate 4 (apply Fre6.chain_still (by first|exact Free.wanted_of rfl rfl rfl|rfl) rfl;(intro w' hB hA;clear hA hB;go_light;go_simp<;>rfl);(try simp only[Pt]))
  apply Fre6.chain_still (by first|exact Free.wanted_of rfl rfl rfl|rfl) rfl
  ·intro w' hB hA
   exact Hk.exec_mid 47 (.tmp 51) rfl ab (ao+i*22+3) rfl ps _ (HPT.out w' hB).1 Tryz.underlying47 rfl HIP.out
  simp only[Pt]
  apply Fre6.chain_ind (by first|exact Free.wanted_of rfl rfl rfl|rfl) rfl
  ·intro d w' hu hd hc hB hA
   refine Fre6.opRun_call (f:=21) (args:= #[.agg cs.toArray, .agg ps.toArray]) (by clear hB hA hc hu hd;go_simp<;>rfl) ?_
   have CI:=gZ c pp x.2 w' (HC.out.below (HK.out w' (HW8.out w' hB)).2.2.1 (Nat.le_refl _)) HZ.out (HPT.out w' hB).2 HAX.out.1.cl HKD.out HAX.out.2
   rw[<-ECS.out, <-EPS.out]at CI
   refine CI.mono ?_
   intro e w9 hp
   obtain⟨hb9,y,rfl,hy⟩:=irA_of hp
   obtain⟨c',n,ey,_⟩:=id hy
   exact⟨y,rfl,hb9.mono hc.bs,y,by rw[ey];rfl,trivial,(hc.grow (fa _ _) hb9).putI hd hy (by decide) (by decide)⟩
  simp only[Pt]
  iterate 3 (apply Fre6.chain_still (by first|exact Free.wanted_of rfl rfl rfl|rfl) rfl;(intro w' hB hA;clear hA hB;go_light;go_simp<;>rfl);(try simp only[Pt]))
  apply Fre6.chain_ind (by first|exact Free.wanted_of rfl rfl rfl|rfl) rfl
  ·intro d w' hu hd hc hB hA
   have hbn:Below w'.heap.size w' (w'.alloc (.cells (ak gF).toArray 27)):=(Below.refl _ _).alloc (Nat.le_refl _) _
   refine Fre6.opRun_of (v:= .pointer (some ⟨w'.heap.size,0,none⟩)) (w':=w'.alloc (.cells (ak gF).toArray 27)) (by rw[show(ak gF).toArray= #[.int .i64 0, .slice none 0 0, .slice none 0 0, .slice none 0 0, .slice none 0 0, .int .i64 0, .slice none 0 0] from rfl];clear hB hA hc hu hd hbn;go_light;go_simp<;>rfl) ⟨hbn.mono hc.bs, .int .i64 (w'.heap.size:Int),rfl,trivial,(hc.grow (fa _ _) hbn).putB hd hc.bs (Row.new w' 27 (ak gF)) (by decide) (by decide)⟩
  simp only[Pt]
  apply Fre6.chain_det (by first|exact Free.wanted_of rfl rfl rfl|rfl) rfl
  ·intro d w' hu hd hc hB hA
   have d7:=hu.2 6 (by decide) (by kernel_rfl)
   have d12:=hu.2 10 (by decide) (by kernel_rfl)
   have hrow:=(hc.box _ d12).2.1 hd
   obtain⟨c',n,ey,_⟩:=hc.inf _ d7
   have hfa:f2 (u 6)=(ak c').toArray:=by rw[ey];rfl
   refine Fre6.opRun_skip (aY 27 (.tmp 10) (.tmp 54) rfl (gN (u 10)) (f2 (u 6)) rfl rfl 27 (ak gF).toArray hrow (by rw[hfa,aK (ak c') rfl];simp) (by rw[hfa];rfl) (by rw[hfa];exact all_oneCell_toArray (aX _))) ⟨(hc.putS (fa _ _) (x:=undef) hd d7 d12 (by decide) (by decide)).1,fun z=>(hc.putS (fa _ _) (x:=z) hd d7 d12 (by decide) (by decide)).2,rfl⟩
  simp only[Pt]
  iterate 1 (apply Fre6.chain_still (by first|exact Free.wanted_of rfl rfl rfl|rfl) rfl;(intro w' hB hA;clear hA hB;go_light;go_simp<;>rfl);(try simp only[Pt]))
  apply Fre6.chain_nil
  intro w8 hB8 hC8 _ _
  simp only[List.drop_succ_cons,List.drop_zero,List.drop_nil]
  have j1:=hC8.inf _ (rfl:_=some (u 6))
  have b1:=(hC8.box _ (rfl:_=some (u 10))).2.2 (by simp) _ (rfl:_=some (u 6))
  obtain⟨c1,n1,ey1,p1⟩:=j1
  have hfa:f2 (u 6)=(ak c1).toArray:=by rw[ey1];rfl
  have hna:n2 (u 6)=n1:=by rw[ey1];rfl
  obtain⟨g1,eg1⟩:∃g,g=gN (u 10):=⟨_,rfl⟩
  rw[hfa, <-eg1]at b1
  obtain⟨es,ees⟩:∃es,es=ak c1:=⟨_,rfl⟩
  have b1':Row w8 g1 27 es:=by rw[ees];exact b1
  rw[hfa,hna, <-eg1, <-ees]
  have HB8:=h_ (HBW.out.trans (hB8.mono HBW.out.size))
  have HB8r:=h_ hB8
  have HR8:=h_ b1'
  have EES:=h_ ees
  have HP1:=h_ p1
  clear hB8 hC8 b1 ey1 p1 hfa hna eg1 ees b1'
  by_cases hn1:n1=0
  rotate_left
  ·have b0:(n1 !=0)=true:=by simpa using hn1
   clear hn1
   go_wp2_with fail
   go_roundw
   case rel=>exact⟨i+1,rfl,hil,HB8.out⟩
   case measure=>simp[RowKit.intOf];omega
  have b0:(n1 !=0)=false:=by simpa using hn1
  obtain⟨hap,how1⟩:bf c.con pp=some c1.con/\ConOw 0 w8 c1:=by
   rcases HP1.out with⟨_,h2,h3⟩|⟨h1,_⟩
   ·exact⟨h2,h3⟩
   ·exact absurd hn1 h1
  have HAP:=h_ hap
  have HOW:=h_ how1
  have HPT8:Hid (∀w',Below w8.heap.size w8 w'->Below W1.heap.size W1 w'/\w'.rangeAt ab (ao+i*22+3) ps/\PatAt w' pp x.2):=h_ fun w' hb=>by
   have hb2:Below wr.heap.size wr w':=HB8r.out.trans (hb.mono HB8r.out.size)
   exact⟨HW8.out w' hb2,HPT.out w' hb2⟩
  clear hn1 hap how1 HP1 HPT HW8
  go_wp2_with fail
  letI:Fre2.Rel:=⟨fun w w'=>Below w8.heap.size w w',fun w=>Below.refl _ _,fun a b c h g=>h.trans g⟩
  refine Fre6.wp_region_free 14 [(7, .ind (fun y=> .tuple #[.agg (f2 y), .int .i64 0]) (fun _ _=>True)),(11, .ind (fun y=> .pointer (some ⟨gN y,0,none⟩)) (fun _ _=>True)),(12, .det undef)] (fun w'=>Below w8.heap.size w8 w') (Cx 7 11 12 w8.heap.size 56 zSt (IrM c.con pp s.sta c1.con)) (by kernel_rfl) (by kernel_rfl) ?_ (Below.refl _ _).drew (fun _ _ h r=>h.trans r)
   ⟨Nat.le_refl _,fun n=>absurd rfl n,fun _ e=>(by cases e),fun _ e=>(by cases e)⟩ (fun kk x d w hk hc=> ?_) ?_
  ·intro j mk r hf x w1 w3 _ _
   simp only[Fre6.find]at hf
   repeat' split at hf
   all_goals first|(cases hf;done)|(cases hf;trivial)
  ·simp only[Fre6.find]at hk
   repeat' split at hk
   all_goals first|(cases hk;done)|skip
   exact hc.other (by omega) (by omega) (by omega)
  intro u2
  simp only[List.take_succ_cons,List.take_zero]
  apply Fre6.chain_still (by first|exact Free.wanted_of rfl rfl rfl|rfl) rfl
  ·intro w' hB hA
   exact Hk.exec_mid 27 (.tmp 3) rfl W.heap.size 0 rfl cs _ (HK.out w' (HPT8.out w' hB).1).1 Tryz.underlying27 rfl HIC.out
  simp only[Pt]
  iterate 4 (apply Fre6.chain_still (by first|exact Free.wanted_of rfl rfl rfl|rfl) rfl;(intro w' hB hA;clear hA hB;go_light;go_simp<;>rfl);(try simp only[Pt]))
  apply Fre6.chain_still (by first|exact Free.wanted_of rfl rfl rfl|rfl) rfl
  ·intro w' hB hA
   exact Hk.exec_mid 47 (.tmp 63) rfl ab (ao+i*22+3) rfl ps _ (HPT8.out w' hB).2.1 Tryz.underlying47 rfl HIP.out
  simp only[Pt]
  apply Fre6.chain_still (by first|exact Free.wanted_of rfl rfl rfl|rfl) rfl
  ·intro w' hB hA
   exact Hk.exec_mid 56 (.tmp 5) rfl (W.heap.size+1) 0 rfl ss _ (HK.out w' (HPT8.out w' hB).1).2.1 Tryz.underlying56 rfl HIS.out
  simp only[Pt]
  apply Fre6.chain_ind (by first|exact Free.wanted_of rfl rfl rfl|rfl) rfl
  ·intro d w' hu hd hc hB hA
   refine Fre6.opRun_call (f:=22) (args:= #[.agg cs.toArray, .agg ps.toArray, .agg ss.toArray]) (by clear hB hA hc hu hd;go_simp<;>rfl) ?_
   have hwb:=(HK.out w' (HPT8.out w' hB).1).2.2.1
   have CI:=mig_any c pp x.2 s c1.con w' (HC.out.below hwb (Nat.le_refl _)) HZ.out (HPT8.out w' hB).2.2 HKD.out HAX.out.2 (HS.out.below hwb (Nat.le_refl _)) HSV.out HAP.out
   rw[<-ECS.out, <-EPS.out, <-ESS.out]at CI
   refine CI.mono ?_
   intro e w9 hp
   obtain⟨hb9,y,rfl,hy⟩:=irM_of hp
   obtain⟨s',ey,_⟩:=id hy
   exact⟨y,rfl,hb9.mono hc.bs,y,by rw[ey];rfl,trivial,(hc.grow (eY _ _ _ _) hb9).putI hd hy (by decide) (by decide)⟩
  simp only[Pt]
  iterate 3 (apply Fre6.chain_still (by first|exact Free.wanted_of rfl rfl rfl|rfl) rfl;(intro w' hB hA;clear hA hB;go_light;go_simp<;>rfl);(try simp only[Pt]))
  apply Fre6.chain_ind (by first|exact Free.wanted_of rfl rfl rfl|rfl) rfl
  ·intro d w' hu hd hc hB hA
   have hbn:Below w'.heap.size w' (w'.alloc (.cells zSt.toArray 56)):=(Below.refl _ _).alloc (Nat.le_refl _) _
   refine Fre6.opRun_of (v:= .pointer (some ⟨w'.heap.size,0,none⟩)) (w':=w'.alloc (.cells zSt.toArray 56)) (by rw[show zSt.toArray= #[.int .i64 0, .slice none 0 0, .slice none 0 0, .slice none 0 0] from rfl];clear hB hA hc hu hd hbn;go_light;go_simp<;>rfl) ⟨hbn.mono hc.bs, .int .i64 (w'.heap.size:Int),rfl,trivial,(hc.grow (eY _ _ _ _) hbn).putB hd hc.bs (Row.new w' 56 zSt) (by decide) (by decide)⟩
  simp only[Pt]
  apply Fre6.chain_det (by first|exact Free.wanted_of rfl rfl rfl|rfl) rfl
  ·intro d w' hu hd hc hB hA
   have d7:=hu.2 7 (by decide) (by kernel_rfl)
   have d12:=hu.2 11 (by decide) (by kernel_rfl)
   have hrow:=(hc.box _ d12).2.1 hd
   obtain⟨s',ey,_⟩:=hc.inf _ d7
   have hfa:f2 (u2 7)=(aE s').toArray:=by rw[ey];rfl
   refine Fre6.opRun_skip (aY 56 (.tmp 12) (.tmp 67) rfl (gN (u2 11)) (f2 (u2 7)) rfl rfl 56 zSt.toArray hrow (by rw[hfa,dc (aE s') rfl];simp) (by rw[hfa];rfl) (by rw[hfa];exact all_oneCell_toArray (cB _))) ⟨(hc.putS (eY _ _ _ _) (x:=undef) hd d7 d12 (by decide) (by decide)).1,fun z=>(hc.putS (eY _ _ _ _) (x:=z) hd d7 d12 (by decide) (by decide)).2,rfl⟩
  simp only[Pt]
  iterate 1 (apply Fre6.chain_still (by first|exact Free.wanted_of rfl rfl rfl|rfl) rfl;(intro w' hB hA;clear hA hB;go_light;go_simp<;>rfl);(try simp only[Pt]))
  apply Fre6.chain_nil
  intro w9 hB9 hC9 _ _
  simp only[List.drop_succ_cons,List.drop_zero,List.drop_nil]
  have j1:=hC9.inf _ (rfl:_=some (u2 7))
  have b1:=(hC9.box _ (rfl:_=some (u2 11))).2.2 (by simp) _ (rfl:_=some (u2 7))
  obtain⟨s',ey1,m1,m2,m3,m4,m5,m6⟩:=j1
  have hfa:f2 (u2 7)=(aE s').toArray:=by rw[ey1];rfl
  obtain⟨g2,eg2⟩:∃g,g=gN (u2 11):=⟨_,rfl⟩
  rw[hfa, <-eg2]at b1
  obtain⟨ts,ets⟩:∃ts,ts=aE s':=⟨_,rfl⟩
  have b1':Row w9 g2 56 ts:=by rw[ets];exact b1
  rw[hfa, <-eg2, <-ets]
  have hr9:=HR8.out.below hB9 HR8.out.lt
  have ow9:ConOw 0 w9 c1:=HOW.out.keepAll fun g _ hg=>hB9.block g hg
  obtain⟨k1,k2⟩:=sys_mig HSV.out HAP.out m4 m5
  have hsta:s'.sta=⟨s.sta.day,s.sta.holders,s.sta.used,s'.marks⟩:=by unfold StaM.sta;rw[m1,m2,m3];rfl
  have CV2:=sysv_any c1 s' w9 ow9.at ow9.sz m6.at_
  rw[hsta,k1, <-EES.out, <-ets]at CV2
  have CV2:=h_ CV2
  have hln:s.marks.length<=s'.marks.length:=by
   have h1:=m4.len
   rw[mig_len]at h1
   ·have h2:=(mgK HSV.out HAP.out).big;have h3:=(mgK HSV.out HAP.out).marks;have h4:c.con.cls.length=c.kls.length:=List.length_map _;omega
   ·have h2:=(mgK HSV.out HAP.out).big;have h3:=(mgK HSV.out HAP.out).marks;have h4:c.con.cls.length=c.kls.length:=List.length_map _
    show s.marks.length<=_;omega
  have hs4:s.marks.length<=4000:=by have h3:=(mgK HSV.out HAP.out).marks;have h4:=(mgK HSV.out HAP.out).ch.n;omega
  have HKP:=h_ k2
  have HLN9:=h_ hln
  have HS4:=h_ hs4
  have HB9:Hid (Below w7.heap.size w7 w9):=h_ (HB8.out.trans (hB9.mono HB8.out.size))
  have HD9:=h_ hr9.rg
  have HT9:=h_ b1'.rg
  have HRT:=h_ b1'
  have HST9:=h_ m6
  have HIE:=h_ (aK es (by rw[EES.out];rfl))
  have HIT:=h_ (dc ts (by rw[ets];rfl))
  have ETS:=h_ ets
  clear hB9 hC9 b1 ey1 m1 m2 m3 m4 m5 m6 hfa eg2 ets b1' hr9 ow9 k1 k2 hsta hln hs4 HPT8 HB8r HR8 HOW
  go_wp2_with (first
   |(refine ae (.tmp 10) ?_;refine Row.still (by first|exact Free.wanted_of rfl rfl rfl|rfl) (Hk.exec_mid 27 (.tmp 10) rfl g1 0 rfl es _ HD9.out Tryz.underlying27 rfl HIE.out) ?_;simp only[Pt])
   |(refine ae (.tmp 12) ?_;refine Row.still (by first|exact Free.wanted_of rfl rfl rfl|rfl) (Hk.exec_mid 56 (.tmp 12) rfl g2 0 rfl ts _ HT9.out Tryz.underlying56 rfl HIT.out) ?_;simp only[Pt]))
  refine CV2.out.mono ?_
  rintro e w10 ⟨rfl,hb10⟩
  have HB10:Hid (Below w7.heap.size w7 w10):=h_ (HB9.out.trans (hb10.mono HB9.out.size))
  have HR10:=h_ (HRT.out.below hb10 HRT.out.lt)
  have HS10:=h_ (HST9.out.below hb10)
  clear CV2 hb10
  go_wp2_with fail
  go_loopw [14] (fun v wr=> ∃j:Nat,v= .int .i64 (j:Int)/\j<=s.marks.length/\Below w10.heap.size w10 wr) (fun v _=>s.marks.length- (RowKit.intOf v).toNat)
  case atStart=>exact⟨0,rfl,Nat.zero_le _,Below.refl _ _⟩
  case round=>
   obtain⟨j,rfl,hj,hbw⟩:=hrel
   have hjb:(j:Int)<=4000:=by have:=HS4.out;omega
   have HWB:Hid (∀w',Below w10.heap.size w10 w'->Below W1.heap.size W1 w'):=h_ fun w' hb=>HB7.out.trans ((HB10.out.trans (hb.mono HB10.out.size)).mono HB7.out.size)
   have s3:=(HK.out wr (HWB.out wr hbw)).2.2.2.2.1
   rcases Nat.lt_or_eq_of_le hj with hjl|hjl
   rotate_left
   ·have hji: ¬(j:Int)<(s.marks.length:Int):=by omega
    have HF:=h_ (HB10.out.trans (hbw.mono HB10.out.size))
    clear hbw hj
    go_wp2_with fail
    go_roundw
    case rel=>exact⟨i+1,rfl,hil,HF.out⟩
    case measure=>simp[RowKit.intOf];omega
   have hji:(j:Int)<(s.marks.length:Int):=by omega
   have hj0:(0:Int)<=(j:Int):=by omega
   have hjt:(j:Int)<(s'.marks.length:Int):=by have:=HLN9.out;omega
   obtain⟨m,em⟩:∃m,s.marks[j]? =some m:=⟨_,List.getElem?_eq_getElem hjl⟩
   obtain⟨m',em'⟩:∃m',s'.marks[j]? =some m':=⟨_,List.getElem?_eq_getElem (by omega)⟩
   have hkp:=HKP.out j m m' em em'
   have hsm:=(HS.out.below (HK.out wr (HWB.out wr hbw)).2.2.1 (Nat.le_refl _)).m
   obtain⟨mb,mo,eM⟩:=aC hsm (by intro e;rw[e]at hjl;simp at hjl)
   have htm:=(HS10.out.below hbw).at_.m
   obtain⟨tb,tq,eT⟩:=aC htm (by intro e;rw[e]at em';simp at em')
   obtain⟨ms,ems⟩:∃ms,ms=ah m:=⟨_,rfl⟩
   obtain⟨ms',ems'⟩:∃ms',ms'=ah m':=⟨_,rfl⟩
   have HKK:Hid (∀w',Below wr.heap.size wr w'->w'.cell? ⟨W.heap.size+1,3,none⟩=some (.slice (some ⟨mb,mo,none⟩) s.marks.length s.mc)/\w'.cell? ⟨g2,3,none⟩=some (.slice (some ⟨tb,tq,none⟩) s'.marks.length s'.mc)/\w'.cell? ⟨mb,mo+j*5,none⟩=some (.int .i64 m.status)/\w'.cell? ⟨tb,tq+j*5,none⟩=some (.int .i64 m'.status)/\w'.rangeAt mb (mo+j*5) ms/\w'.rangeAt tb (tq+j*5) ms'):=h_ fun w' hb=>by
    have hb2:=hbw.trans (hb.mono hbw.size)
    have h1:=(HK.out w' (HWB.out w' hb2)).2.2.2.2.1
    have h2:=(HR10.out.below hb2 HR10.out.lt).at (show ts[3]? =some (.slice s'.mA s'.marks.length s'.mc) by rw[ETS.out];rfl)
    have h3:=hsm.below hb (Nat.le_refl _)
    have h4:=htm.below hb (Nat.le_refl _)
    rw[eM]at h1 h3
    rw[eT]at h2 h4
    have r3:=az h3 em
    have r4:=az h4 em'
    exact⟨h1,h2,r3 0 _ rfl,r4 0 _ rfl,by rw[ems];exact r3,by rw[ems'];exact r4⟩
   have HIM:=h_ (bV ms (by rw[ems];rfl))
   have HIM':=h_ (bV ms' (by rw[ems'];rfl))
   have EMM:Hid (Value.agg ms.toArray= .agg (ah m).toArray):=h_ (by rw[ems])
   have EMM':Hid (Value.agg ms'.toArray= .agg (ah m').toArray):=h_ (by rw[ems'])
   clear em em' hsm eM htm eT ems ems' hj
   go_wp2_with fail
   clear s3
   by_cases h3:m.status=3
   ·have qa:(m.status==3)=true:=by simpa using h3
    have qd:(m.status !=4)=true:=by rw[h3];rfl
    have hmm:=hkp.d h3
    have qe:(m'.status==4)=false:=by rw[hmm,h3];rfl
    have ENE:Hid (false= !m'.same m):=h_ (by rw[(Mar.same_iff m' m).2 hmm];rfl)
    clear h3 hmm hkp
    refine Free.wp_region_free 38 [] (fun w'=>Below wr.heap.size wr w') (by kernel_rfl) (by kernel_rfl) (Free.mono_det (fun j mk r hf=>by simp only[Free.find]at hf;repeat' (first|cases hf|split at hf))) (Below.refl _ _).drew (fun _ _ h g=>h.trans (Below.mono g h.size)) ?_
    simp only[List.take_succ_cons,List.take_zero]
    iterate 12 (apply Free.chain_still (by first|exact Free.wanted_of rfl rfl rfl|rfl) rfl;(intro w' hB hA;obtain⟨y1,y2,y3,y4,_,_⟩:=HKK.out w' hB;clear hA hB;go_light;go_simp<;>rfl);(try simp only[Pt]))
    apply Free.chain_still (by first|exact Free.wanted_of rfl rfl rfl|rfl) rfl
    ·intro w' hB hA
     exact Hk.exec_mid 66 (.tmp 95) rfl tb (tq+j*5) rfl ms' _ (HKK.out w' hB).2.2.2.2.2 Tryz.underlying66 rfl HIM'.out
    simp only[Pt]
    iterate 4 (apply Free.chain_still (by first|exact Free.wanted_of rfl rfl rfl|rfl) rfl;(intro w' hB hA;obtain⟨y1,y2,y3,y4,_,_⟩:=HKK.out w' hB;clear hA hB;go_light;go_simp<;>rfl);(try simp only[Pt]))
    apply Free.chain_still (by first|exact Free.wanted_of rfl rfl rfl|rfl) rfl
    ·intro w' hB hA
     exact Hk.exec_mid 66 (.tmp 100) rfl mb (mo+j*5) rfl ms _ (HKK.out w' hB).2.2.2.2.1 Tryz.underlying66 rfl HIM.out
    simp only[Pt]
    apply Free.chain_still (by first|exact Free.wanted_of rfl rfl rfl|rfl) rfl
    ·intro w' hB hA
     exact exec_neMar rfl EMM'.out EMM.out ENE.out
    simp only[Pt]
    iterate 19 (apply Free.chain_still (by first|exact Free.wanted_of rfl rfl rfl|rfl) rfl;(intro w' hB hA;obtain⟨y1,y2,y3,y4,_,_⟩:=HKK.out w' hB;clear hA hB;go_light;go_simp<;>rfl);(try simp only[Pt]))
    apply Free.chain_nil
    intro w6 hw6 _ _
    simp only[List.drop_succ_cons,List.drop_zero,List.drop_nil]
    have HF:=h_ (hbw.trans (hw6.mono hbw.size))
    clear hbw hw6
    go_wp2_with fail
    go_roundw
    case rel=>exact⟨j+1,rfl,hjl,HF.out⟩
    case measure=>simp[RowKit.intOf];omega
   have qa:(m.status==3)=false:=by simpa using h3
   by_cases h4:m.status=4
   ·have qd:(m.status !=4)=false:=by simpa using h4
    clear h3 h4 hkp
    refine Free.wp_region_free 38 [] (fun w'=>Below wr.heap.size wr w') (by kernel_rfl) (by kernel_rfl) (Free.mono_det (fun j mk r hf=>by simp only[Free.find]at hf;repeat' (first|cases hf|split at hf))) (Below.refl _ _).drew (fun _ _ h g=>h.trans (Below.mono g h.size)) ?_
    simp only[List.take_succ_cons,List.take_zero]
    iterate 8 (apply Free.chain_still (by first|exact Free.wanted_of rfl rfl rfl|rfl) rfl;(intro w' hB hA;obtain⟨y1,y2,y3,y4,_,_⟩:=HKK.out w' hB;clear hA hB;go_light;go_simp<;>rfl);(try simp only[Pt]))
    iterate 11 (apply Free.chain_skip (by first|exact unwanted2 rfl rfl rfl rfl|exact aJ rfl rfl rfl);simp only[Pt])
    iterate 10 (apply Free.chain_still (by first|exact Free.wanted_of rfl rfl rfl|rfl) rfl;(intro w' hB hA;obtain⟨y1,y2,y3,y4,_,_⟩:=HKK.out w' hB;clear hA hB;go_light;go_simp<;>rfl);(try simp only[Pt]))
    iterate 7 (apply Free.chain_skip (by first|exact unwanted2 rfl rfl rfl rfl|exact aJ rfl rfl rfl);simp only[Pt])
    iterate 2 (apply Free.chain_still (by first|exact Free.wanted_of rfl rfl rfl|rfl) rfl;(intro w' hB hA;obtain⟨y1,y2,y3,y4,_,_⟩:=HKK.out w' hB;clear hA hB;go_light;go_simp<;>rfl);(try simp only[Pt]))
    apply Free.chain_nil
    intro w6 hw6 _ _
    simp only[List.drop_succ_cons,List.drop_zero,List.drop_nil]
    have HF:=h_ (hbw.trans (hw6.mono hbw.size))
    clear hbw hw6
    go_wp2_with fail
    go_roundw
    case rel=>exact⟨j+1,rfl,hjl,HF.out⟩
    case measure=>simp[RowKit.intOf];omega
   ·have qd:(m.status !=4)=true:=by simpa using h4
    have qe:(m'.status==4)=false:=by
     have h5: ¬m'.status=4:=fun e=>h4 (hkp.f e)
     simpa using h5
    clear h3 h4 hkp
    refine Free.wp_region_free 38 [] (fun w'=>Below wr.heap.size wr w') (by kernel_rfl) (by kernel_rfl) (Free.mono_det (fun j mk r hf=>by simp only[Free.find]at hf;repeat' (first|cases hf|split at hf))) (Below.refl _ _).drew (fun _ _ h g=>h.trans (Below.mono g h.size)) ?_
    simp only[List.take_succ_cons,List.take_zero]
    iterate 8 (apply Free.chain_still (by first|exact Free.wanted_of rfl rfl rfl|rfl) rfl;(intro w' hB hA;obtain⟨y1,y2,y3,y4,_,_⟩:=HKK.out w' hB;clear hA hB;go_light;go_simp<;>rfl);(try simp only[Pt]))
    iterate 11 (apply Free.chain_skip (by first|exact unwanted2 rfl rfl rfl rfl|exact aJ rfl rfl rfl);simp only[Pt])
    iterate 19 (apply Free.chain_still (by first|exact Free.wanted_of rfl rfl rfl|rfl) rfl;(intro w' hB hA;obtain⟨y1,y2,y3,y4,_,_⟩:=HKK.out w' hB;clear hA hB;go_light;go_simp<;>rfl);(try simp only[Pt]))
    apply Free.chain_nil
    intro w6 hw6 _ _
    simp only[List.drop_succ_cons,List.drop_zero,List.drop_nil]
    have HF:=h_ (hbw.trans (hw6.mono hbw.size))
    clear hbw hw6
    go_wp2_with fail
    go_roundw
    case rel=>exact⟨j+1,rfl,hjl,HF.out⟩
    case measure=>simp[RowKit.intOf];omega
end Go.Proofs.YtekfoaenomgjgaaGreatDoor
namespace Go.Proofs.YtekfoaenomgjgaaGreatDoor
open Go.RowKit Go.W32 Go.Blk Go.Cs Go.Lib Go.Opn Go.Mg Go.Cv Go.ChangeShapes Go.WideShapes Go.Deep Go.OpenShut

theorem cells_b1:Tryz.prog.cellsOf 4=1:=by kernel_rfl
theorem cells_mk5:Tryz.prog.cellsOf 66=5:=by kernel_rfl
theorem cells_st4:Tryz.prog.cellsOf 56=4:=by kernel_rfl
instance:Inhabited Mar:=⟨Mar.idle⟩
theorem bool_of{H:Type}{enc:TypeId×Value->H}{w:World}{base:Nat}{spare:Nat->Bool}{held:Bool}{fuel:Nat}{cs:List Value}{x:DataW H×List MemPlace}(h:DataW.trod enc Tryz.prog w base spare held fuel 4 cs=some x):
  ∃a:Bool,True/\∀(p:Nat) u,(encB a)[p]? =some u->cs[p]? =some u:=by
 obtain⟨n,hn,_⟩:=DataW.trod_bool Tryz.underlying4 h
 refine⟨n,trivial,fun p u hu=> ?_⟩
 rw[hn];exact hu
theorem mar_of{H:Type}{enc:TypeId×Value->H}{w:World}{base:Nat}{spare:Nat->Bool}{held:Bool}{fuel:Nat}{cs:List Value}{x:DataW H×List MemPlace}(hf:DataW.trod enc Tryz.prog w base spare held fuel 66 cs=some x):
  ∃a:Mar,True/\∀(p:Nat) u,(ah a)[p]? =some u->cs[p]? =some u:=by
 obtain⟨a0,h0,_⟩:=al (f:=3) (p:=0) Tryz.underlying3 (by kernel_rfl) hf
 obtain⟨a1,h1,_⟩:=al (f:=3) (p:=1) Tryz.underlying3 (by kernel_rfl) hf
 obtain⟨a2,h2,_⟩:=al (f:=3) (p:=2) Tryz.underlying3 (by kernel_rfl) hf
 obtain⟨a3,h3,_⟩:=al (f:=3) (p:=3) Tryz.underlying3 (by kernel_rfl) hf
 obtain⟨a4,h4⟩:=da (f:=3) (p:=4) Tryz.underlying4 (by kernel_rfl) hf
 refine⟨⟨a0,a1,a2,a3,a4⟩,trivial,fun p u hu=> ?_⟩
 match p,hu with
 |0,hu=>cases hu;exact h0
 |1,hu=>cases hu;exact h1
 |2,hu=>cases hu;exact h2
 |3,hu=>cases hu;exact h3
 |4,hu=>cases hu;exact h4
 |p+5,hu=>simp[ah]at hu
theorem sta_of{H:Type}{enc:TypeId×Value->H}{w:World}{base:Nat}{spare:Nat->Bool}{held:Bool}{fuel:Nat}{cs:List Value}{x:DataW H×List MemPlace}(hf:DataW.trod enc Tryz.prog w base spare held fuel 56 cs=some x):∃s:StaM,StaAt w s/\∀(p:Nat) u,(aE s)[p]? =some u->cs[p]? =some u:=by
 obtain⟨a0,h0,_⟩:=al (f:=5) (p:=0) Tryz.underlying3 (by kernel_rfl) hf
 obtain⟨A1,k1,l1,h1,b1,c1,s1,_⟩:=bL (α:=Int) (ec:=Cs.encI) (K:=bn) (f:=5) (p:=1) Tryz.underlying22 (by rw[cj];decide) (fun f cs x h=>int_of h) (by kernel_rfl) hf
 rw[cj]at s1
 obtain⟨A2,k2,l2,h2,b2,c2,s2,_⟩:=bL (α:=Bool) (ec:=encB) (K:=fun _=>True) (f:=5) (p:=2) Tryz.underlying53 (by rw[cells_b1];decide) (fun f cs x h=>bool_of h) (by kernel_rfl) hf
 rw[cells_b1]at s2
 obtain⟨A3,k3,l3,h3,b3,c3,s3,_⟩:=bL (α:=Mar) (ec:=ah) (K:=fun _=>True) (f:=5) (p:=3) Tryz.underlying54 (by rw[cells_mk5];decide) (fun f cs x h=>mar_of h) (by kernel_rfl) hf
 rw[cells_mk5]at s3
 refine⟨⟨a0,l1,l2,l3,A1,k1,A2,k2,A3,k3⟩,⟨s1,s2,s3⟩,fun p u hu=> ?_⟩
 match p,hu with
 |0,hu=>cases hu;exact h0
 |1,hu=>cases hu;exact h1
 |2,hu=>cases hu;exact h2
 |3,hu=>cases hu;exact h3
 |p+4,hu=>simp[aE]at hu
theorem open_sta{H:Type}{enc:TypeId×Value->H}{w:World}{base:Nat}{spare:Nat->Bool}{held:Bool}{v:Value}{d:DataW H}{ps:List MemPlace}{r:Reach}{b0:Nat}(hv:Value.okWide Tryz.prog w r b0 56 v)(h:DataW.Trod enc Tryz.prog w base spare held 56 v d ps):
  ∃s:StaM,v= .agg (aE s).toArray/\StaAt w s:=by
 obtain⟨cs,rfl,hsz⟩:=okWide_struct Tryz.underlying56 hv
 rw[cells_st4]at hsz
 obtain⟨fuel,hf⟩:=h
 obtain⟨s,ha,hcs⟩:=sta_of hf
 refine⟨s, ?_,ha⟩
 congr 1
 apply Array.ext'
 show cs.toList=aE s
 apply List.ext_getElem?
 intro i
 by_cases hi:i<4
 ·obtain⟨u,hu⟩:∃u,(aE s)[i]? =some u:=⟨_,List.getElem?_eq_getElem (by show i<4;exact hi)⟩
  rw[hu];exact hcs i u hu
 ·rw[List.getElem?_eq_none (by simp;omega),List.getElem?_eq_none (by show 4<=i;omega)]
theorem toppatches_any(c:ConM)(A:Option Addr)(k:Nat)(l:List Rl)(s:StaM)(W:World)(hT:HasT W)(hc:ConAt W c)(hz:ConSz c)(hl:LetsW W A l)(hn:l.length<=9223372036854775807)(hs:StaAt W s):
  Calls Tryz.prog 5 #[.agg (ak c).toArray, .slice A l.length k, .agg (aE s).toArray] W fun e w'=>e= .returned (.bool true)/\Below W.heap.size W w':=
 topp_any c A k l s W hT hc hz hl.sl hn (fun h=>hl.ok h) hs
end Go.Proofs.YtekfoaenomgjgaaGreatDoor
