/- Package version: Order. Condition: the amendments lie in memory. -/
import Derived.Test.YtekfoaenomgjgaaGreatDoorYF
import Derived.Test.YtekfoaenomgjgaaGreatDoorZ8
import Derived.Test.YtekfoaenomgjgaaGreatDoorShelfH
import Derived.Great.BuildSlice
set_option maxRecDepth 100000
set_option linter.all false
namespace Go.Cs
open Go
def cmpI(x y:Int):Int:=if x<y then -1 else if y<x then 1 else 0
def orI:List Int->Int
 | []=>0
 |x::r=>if x=0 then orI r else x
abbrev Pl:=(Pr×Hd)×Int
def cc(x:Pl):List Value:=bH x.1++ [.int .i64 x.2]
theorem eP(x:Pl):(cc x).length=23:=rfl
theorem gU(x:Pl):∀v∈cc x,v.oneCell'=true:=fun v hv=>by
 simp only[cc,List.mem_append,List.mem_singleton]at hv
 rcases hv with hv|rfl
 ·exact dG _ v hv
 ·rfl
def cmpP(x y:Pl):Int:=orI [cmpI x.1.1.x.day y.1.1.x.day,cmpI x.1.1.x.number y.1.1.x.number,cmpI x.2 y.2]
end Go.Cs
namespace Go.Proofs.YtekfoaenomgjgaaGreatDoor
open Go.RowKit Go.W32 Go.Blk Go.Cs Go.Lib Go.Opn Go.Mg

theorem cmp_any(x y:Int)(w:World):Calls Tryz.prog 142 #[.int .i64 x, .int .i64 y] w fun e w'=>e= .returned (.int .i64 (cmpI x y))/\w'=w:=by
 go_enter Tryz.func142,Tryz.ntmps142
 go_wp2
 all_goals (go_ret;refine⟨?_,rfl⟩;unfold cmpI;(repeat' split)<;>first|rfl|(exfalso;omega))
theorem drop_at{α:Type}{l:List α}{k:Nat}{x:α}(h:l[k]? =some x):l.drop k=x::l.drop (k+1):=by
 have hl:=(List.getElem?_eq_some_iff.1 h).1
 rw[List.drop_eq_getElem_cons hl]
 congr 1
 exact(List.getElem?_eq_some_iff.1 h).2
theorem or_any(A:Option Addr)(c:Nat)(l:List Int)(w:World)(hl:SL w 1 Cs.encI A l)(hn:l.length<=1000):Calls Tryz.prog 141 #[.slice A l.length c] w fun e w'=>e= .returned (.int .i64 (orI l))/\w'=w:=by
 obtain⟨R,eR⟩:∃R:Ending->World->Prop,R=fun e w'=>e= .returned (.int .i64 (orI l))/\w'=w:=⟨_,rfl⟩
 rw[<-eR]
 have FIN:Hid (∀v,v=orI l->R (.returned (.int .i64 v)) w):=h_ fun v h=>by rw[eR,h];exact⟨rfl,rfl⟩
 clear eR
 have HL:=h_ hl
 have HN:=h_ hn
 clear hl hn
 go_enter Tryz.func141,Tryz.ntmps141
 go_wp2_with fail
 go_loopw [8] (fun v wr=> ∃k:Nat,v= .int .i64 (k:Int)/\k<=l.length/\Hid (orI l=orI (l.drop k))/\wr=w) (fun v _=>(l.length:Int).toNat- (RowKit.intOf v).toNat)
 case atStart=>exact⟨0,rfl,Nat.zero_le _,h_ rfl,rfl⟩
 case round=>
  obtain⟨k,rfl,hk,ho,hw⟩:=hrel
  subst hw
  rcases Nat.lt_or_eq_of_le hk with hkl|hkl
  ·have hki:(k:Int)<(l.length:Int):=by omega
   have hkb:(k:Int)+1<=9223372036854775807:=by have:=HN.out;omega
   obtain⟨d,ed⟩:∃x,l[k]? =some x:=⟨_,List.getElem?_eq_getElem hkl⟩
   have hsl:=HL.out
   obtain⟨b,off,rfl⟩:=aC hsl (by intro e;rw[e]at hkl;simp at hkl)
   have cd:=bR hsl ed
   have hd:=drop_at ed
   have HO:=ho
   by_cases h0:d=0
   ·have q:(d !=0)=false:=by simp[h0]
    have HX:Hid (orI l=orI (l.drop (k+1))):=h_ (by rw[HO.out,hd];show(if d=0 then _ else _)=_;rw[if_pos h0])
    clear hd ed hsl h0 ho hk HL
    go_wp2_with fail
    go_roundw
    case rel=>exact⟨k+1,rfl,hkl,HX,by trivial⟩
    case measure=>simp[RowKit.intOf];omega
   ·have q:(d !=0)=true:=by simpa using h0
    have HF:=h_ (FIN.out d (by rw[HO.out,hd];show _=(if d=0 then _ else _);rw[if_neg h0]))
    clear FIN hd ed hsl h0 ho hk HL
    go_wp2_with fail
    exact HF.out
  ·have hki: ¬(k:Int)<(l.length:Int):=by omega
   have HF:=h_ (FIN.out 0 (by rw[ho.out,List.drop_of_length_le (by omega)];rfl))
   clear FIN ho hk hkl
   go_wp2_with fail
   exact HF.out
def GR(w w':World):Prop:=∃q os',w'=Sort.grow (w.drewN q) os'
theorem GR.refl(w:World):GR w w:=⟨0, #[],by simp[Sort.grow,World.drewN]⟩
theorem GR.trans(a b c:World)(h:GR a b)(k:GR b c):GR a c:=by
 obtain⟨q,os,rfl⟩:=h
 obtain⟨q',os',rfl⟩:=k
 refine⟨q+q',os++os', ?_⟩
 simp[Sort.grow,World.drewN,Array.append_assoc,Nat.add_assoc]
theorem GR.alloc(w:World)(o:Obj):GR w (w.alloc o):=⟨0, #[o],by rw[Sort.alloc_eq_grow];simp[Sort.grow,World.drewN]⟩
theorem GR.drew(w:World):GR w w.drew:=⟨1, #[],by unfold Sort.grow World.drewN World.drew;simp only[Array.append_empty]⟩
theorem GR.below{w w':World}(h:GR w w'):Below w.heap.size w w':=by
 obtain⟨q,os,rfl⟩:=h
 exact⟨rfl,rfl,rfl,by simp[Sort.grow,World.drewN],fun k hk=>by simp[Sort.grow,World.drewN,Array.getElem?_append,hk]⟩
structure PcB (b1 b2:Nat) (x y:Pl) (w:World):Prop where
 xd:w.cell? ⟨b1,1,none⟩=some (.int .i64 x.1.1.x.day)
 yd:w.cell? ⟨b2,1,none⟩=some (.int .i64 y.1.1.x.day)
 xn:w.cell? ⟨b1,0,none⟩=some (.int .i64 x.1.1.x.number)
 yn:w.cell? ⟨b2,0,none⟩=some (.int .i64 y.1.1.x.number)
 xi:w.cell? ⟨b1,22,none⟩=some (.int .i64 x.2)
 yi:w.cell? ⟨b2,22,none⟩=some (.int .i64 y.2)
theorem PcB.keep{b1 b2:Nat}{x y:Pl}{w w':World}(h:PcB b1 b2 x y w)(hr:GR w w'):PcB b1 b2 x y w':=by
 have hb:=hr.below
 have k:∀ {a:Addr} {v:Value},w.cell? a=some v->w'.cell? a=some v:=fun {a v} hv=>by rw[hb.cell (World.block_lt_of_cell? w a hv)];exact hv
 exact⟨k h.xd,k h.yd,k h.xn,k h.yn,k h.xi,k h.yi⟩
theorem three_ints(x y z:Int)(w:World):(Instr.buildSlice 22 3 #[(0, .int .i64 x),(1, .int .i64 y),(2, .int .i64 z)]).run Tryz.prog w= .ok (.slice (some ⟨w.heap.size,0,none⟩) 3 3) (w.alloc (.cells #[.int .i64 x, .int .i64 y, .int .i64 z] 3)):=by kernel_rfl
theorem sl_ints{w:World}{z:Nat}{T:TypeId}{l:List Int}(h:Row w z T (l.map (Value.int .i64))):SL w 1 Cs.encI (some ⟨z,0,none⟩) l:=
 ⟨fun _=>⟨z,0,rfl,fun i e hi p u hu=>by
  have hp:p=0:=by have:=(List.getElem?_eq_some_iff.1 hu).1;simp[Cs.encI]at this;exact this
  subst hp
  simp[Cs.encI]at hu
  subst hu
  rw[show 0+(i*1+0)=i by omega]
  exact h.at (by rw[List.getElem?_map,hi];rfl)⟩⟩
def RsP(c1 c2 c3:Int):List (Nat×Free.Loud):= [(6, .det (.int .i64 c1)),(13, .det (.int .i64 c2)),(18, .det (.int .i64 c3)),(19, .ind (fun x=> .slice (some ⟨x,0,none⟩) 3 3) (fun x w=>Row w x 3 [.int .i64 c1, .int .i64 c2, .int .i64 c3])),(20, .det (.int .i64 (orI [c1,c2,c3])))]
set_option maxHeartbeats 1000000 in
theorem pc_any(x y:Pl)(W:World):Calls Tryz.prog 97 #[.agg (cc x).toArray, .agg (cc y).toArray] W fun e w'=>e= .returned (.int .i64 (cmpP x y))/\∃q os',w'=Sort.grow (W.drewN q) os':=by
 obtain⟨R,eR⟩:∃R:Ending->World->Prop,R=fun e w'=>e= .returned (.int .i64 (cmpP x y))/\∃q os',w'=Sort.grow (W.drewN q) os':=⟨_,rfl⟩
 rw[<-eR]
 obtain⟨c1,e1⟩:∃c1,c1=cmpI x.1.1.x.day y.1.1.x.day:=⟨_,rfl⟩
 obtain⟨c2,e2⟩:∃c2,c2=cmpI x.1.1.x.number y.1.1.x.number:=⟨_,rfl⟩
 obtain⟨c3,e3⟩:∃c3,c3=cmpI x.2 y.2:=⟨_,rfl⟩
 have FIN:Hid (∀w',GR W w'->R (.returned (.int .i64 (orI [c1,c2,c3]))) w'):=h_ fun w' hb=>by rw[eR,e1,e2,e3];exact⟨rfl,hb⟩
 clear eR
 obtain⟨cs,ecs⟩:∃cs,cs=cc x:=⟨_,rfl⟩
 obtain⟨ds,eds⟩:∃ds,ds=cc y:=⟨_,rfl⟩
 have hr1:Row (W.alloc (.cells cs.toArray 169)) W.heap.size 169 cs:=Row.new _ _ _
 have hr1':Row ((W.alloc (.cells cs.toArray 169)).alloc (.cells ds.toArray 169)) W.heap.size 169 cs:=hr1.below ((Below.refl _ _).alloc (Nat.le_refl _) _) hr1.lt
 have hr2:Row ((W.alloc (.cells cs.toArray 169)).alloc (.cells ds.toArray 169)) (W.heap.size+1) 169 ds:=by
  have:=Row.new (W.alloc (.cells cs.toArray 169)) 169 ds
  rwa[show(W.alloc (.cells cs.toArray 169)).heap.size=W.heap.size+1 by simp]at this
 obtain⟨W1,eW⟩:∃W1,W1=(W.alloc (.cells cs.toArray 169)).alloc (.cells ds.toArray 169):=⟨_,rfl⟩
 rw[<-eW]at hr1' hr2
 have hB0:PcB W.heap.size (W.heap.size+1) x y W1:=⟨hr1'.at (by rw[ecs];rfl),hr2.at (by rw[eds];rfl),hr1'.at (by rw[ecs];rfl),hr2.at (by rw[eds];rfl),hr1'.at (by rw[ecs];rfl),hr2.at (by rw[eds];rfl)⟩
 have HG:Hid (GR W W1):=h_ (by rw[eW];exact GR.trans _ _ _ (GR.alloc _ _) (GR.alloc _ _))
 have EW:Hid ((W.alloc (.cells cs.toArray 169)).alloc (.cells ds.toArray 169)=W1):=h_ eW.symm
 have HB0:=h_ hB0
 have F1:=h_ e1
 have F2:=h_ e2
 have F3:=h_ e3
 rw[<-ecs, <-eds]
 clear hr1 hr1' hr2 ecs eds eW hB0 e1 e2 e3
 go_enter Tryz.func97,Tryz.ntmps97
 go_wp2_with (simp only[EW.out])
 letI:Fre2.Rel:=⟨GR,GR.refl,GR.trans⟩
 refine Fre2.wp_region_free 21 (RsP c1 c2 c3) (PcB W.heap.size (W.heap.size+1) x y) (by kernel_rfl) (by kernel_rfl) ?_ (HB0.out.keep (GR.drew _)) (fun w1 w2 h r=>h.keep r) ?_
 ·intro j mk r hf z w1 w2 hr rr
  simp only[RsP,Free.find]at hf
  repeat' split at hf
  all_goals first|(cases hf;done)|skip
  cases hf
  exact hr.below (GR.below rr) hr.lt
 simp only[List.take_succ_cons,List.take_zero]
 iterate 20 (first|(apply Fre2.chain_det (by first|exact Free.wanted_of rfl rfl rfl|rfl) rfl;(intro w' hB hA;refine Free.opRun_call (f:=142) (args:= #[.int .i64 x.1.1.x.day, .int .i64 y.1.1.x.day]) (by clear hB hA;go_simp<;>rfl) ?_;refine(cmp_any _ _ _).mono ?_;rintro e w3 ⟨rfl,rfl⟩;exact⟨_,rfl,GR.refl _,by rw[F1.out]⟩);simp only[Pt])|(apply Fre2.chain_det (by first|exact Free.wanted_of rfl rfl rfl|rfl) rfl;(intro w' hB hA;refine Free.opRun_call (f:=142) (args:= #[.int .i64 x.1.1.x.number, .int .i64 y.1.1.x.number]) (by clear hB hA;go_simp<;>rfl) ?_;refine(cmp_any _ _ _).mono ?_;rintro e w3 ⟨rfl,rfl⟩;exact⟨_,rfl,GR.refl _,by rw[F2.out]⟩);simp only[Pt])|(apply Fre2.chain_det (by first|exact Free.wanted_of rfl rfl rfl|rfl) rfl;(intro w' hB hA;refine Free.opRun_call (f:=142) (args:= #[.int .i64 x.2, .int .i64 y.2]) (by clear hB hA;go_simp<;>rfl) ?_;refine(cmp_any _ _ _).mono ?_;rintro e w3 ⟨rfl,rfl⟩;exact⟨_,rfl,GR.refl _,by rw[F3.out]⟩);simp only[Pt])|(apply Fre2.chain_ind (by first|exact Free.wanted_of rfl rfl rfl|rfl) rfl;(intro w' hB hA;exact Free.opRun_of (exec_slice3 rfl (three_ints c1 c2 c3 w')) ⟨GR.alloc _ _,w'.heap.size,rfl,Row.new w' 3 [.int .i64 c1, .int .i64 c2, .int .i64 c3]⟩))|(apply Fre2.chain_still (by first|exact Free.wanted_of rfl rfl rfl|rfl) rfl;(intro w' hB hA;obtain⟨q0,q1,q2,q3,q4,q5⟩:=hB;clear hA q4 q5;go_light;go_simp<;>rfl);(try simp only[Pt]))|(apply Fre2.chain_still (by first|exact Free.wanted_of rfl rfl rfl|rfl) rfl;(intro w' hB hA;obtain⟨q0,q1,q2,q3,q4,q5⟩:=hB;clear hA q0 q1;go_light;go_simp<;>rfl);(try simp only[Pt])))
 intro z
 simp only[Pt]
 apply Fre2.chain_det (by first|exact Free.wanted_of rfl rfl rfl|rfl) rfl
 ·intro w' hB hA
  have hz:Row w' z 3 [.int .i64 c1, .int .i64 c2, .int .i64 c3]:=hA _ List.mem_cons_self (by kernel_rfl)
  refine Free.opRun_call (f:=141) (args:= #[.slice (some ⟨z,0,none⟩) 3 3]) (by clear hB hA hz;go_simp<;>rfl) ?_
  refine(or_any (some ⟨z,0,none⟩) 3 [c1,c2,c3] w' (sl_ints hz) (by simp)).mono ?_
  rintro e w3 ⟨rfl,rfl⟩
  exact⟨_,rfl,GR.refl _,rfl⟩
 simp only[Pt]
 apply Fre2.chain_nil
 intro wz hBz hg hh
 have HZ:=h_ (FIN.out wz (GR.trans _ _ _ HG.out (GR.trans _ _ _ (GR.drew _) hg)))
 clear hBz hg hh HB0
 go_wp2_with fail
 exact HZ.out
end Go.Proofs.YtekfoaenomgjgaaGreatDoor
namespace Go.Cs
open Go
instance:Inhabited Pl:=⟨((⟨⟨0,0,0,0,0,Pat.zero,ByteArray.empty⟩,⟨none,0,none,0⟩,ByteArray.empty,0⟩,⟨none,0,none,0⟩),0)⟩
def Pl.lt(x y:Pl):Prop:=x.1.1.x.day<y.1.1.x.day\/(x.1.1.x.day=y.1.1.x.day/\(x.1.1.x.number<y.1.1.x.number\/(x.1.1.x.number=y.1.1.x.number/\x.2<y.2)))
theorem cmpI_lt(a b:Int):cmpI a b<0↔a<b:=by unfold cmpI;split<;>(try split)<;>omega
theorem cmpI_eq(a b:Int):cmpI a b=0↔a=b:=by unfold cmpI;split<;>(try split)<;>omega
theorem cmpP_lt(x y:Pl):cmpP x y<0↔x.lt y:=by
 unfold cmpP Pl.lt
 simp only[orI]
 have h1:=cmpI_lt x.1.1.x.day y.1.1.x.day
 have h2:=cmpI_eq x.1.1.x.day y.1.1.x.day
 have h3:=cmpI_lt x.1.1.x.number y.1.1.x.number
 have h4:=cmpI_eq x.1.1.x.number y.1.1.x.number
 have h5:=cmpI_lt x.2 y.2
 have h6:=cmpI_eq x.2 y.2
 split
 ·split
  ·split<;>omega
  ·omega
 ·omega
end Go.Cs
namespace Go.Proofs.YtekfoaenomgjgaaGreatDoor
open Go.RowKit Go.W32 Go.Blk Go.Cs Go.Lib Go.Opn Go.Mg

theorem ltP(x y:Pl):ltOf cmpP x y=true↔x.lt y:=by
 unfold ltOf
 rw[decide_eq_true_eq,cmpP_lt]
theorem swoP:Sort.SWO (ltOf cmpP) where
 irrefl x:=by
  rw[Bool.eq_false_iff,ne_eq,ltP];unfold Pl.lt;omega
 trans x y z h1 h2:=by rw[ltP]at*;unfold Pl.lt at*;omega
 ntrans x y z h1 h2:=by
  rw[Bool.eq_false_iff,ne_eq,ltP]at*;unfold Pl.lt at*;omega
theorem entersP(args:Array Value)(w:World):(callFunc 97 args).run Tryz.prog w= .ok (.enter 97 args) w:=enters_of Tryz.func97 (by kernel_rfl) rfl args w
def SoPost(pl:List Pl)(v:Value)(W:World)(e:Ending)(w':World):Prop:=
 e= .returned (.tuple #[])/\W.grownBy w' v.ownBlock/\∃pl' A c,v= .slice A pl.length c/\pl'.Perm pl/\pl'.Pairwise (fun a b=> ¬b.lt a)/\SL w' 23 cc A pl'
set_option maxHeartbeats 1000000 in
theorem sp_any(pl:List Pl)(base:Nat)(v:Value)(W:World)(h:W.ownsRow base 169 23 v pl.length (pl.flatMap cc))(hl:pl.length<=4000):
  Calls Tryz.prog 96 #[v, .func (.func 97) #[] #[]] W (SoPost pl v W):=by
 by_cases h0:pl= []
 ·subst h0
  obtain⟨A,c,rfl⟩:=owns_form h
  refine(AnyF.slices_SortFunc_none Tryz.sfp A c _ W).mono ?_
  rintro e w' ⟨rfl,rfl⟩
  exact⟨rfl,⟨rfl,rfl,rfl,Nat.le_refl _,fun _ _ _=>rfl⟩,[],A,c,rfl,List.Perm.refl _,List.Pairwise.nil,SL.nil⟩
 obtain⟨g,cap,cur,rfl,hb,hg,hn1,hm,ht,_⟩:=Apl.own_at (ec:=cc) eP h h0
 have hlen:pl.toArray.size=pl.length:=by simp
 have hlt:g<W.heap.size:=(Array.getElem?_eq_some_iff.1 hg).1
 have hH:Sort.HoldsK cc 23 W g 0 pl.toArray:=by
  intro j hj
  rw[Sort.size_flatK]at hj
  rw[Sort.get_flatK _ _ _ _ hj,Nat.zero_add]
  refine⟨?_,by simp[World.frozen?,hg]⟩
  have hj2:j<pl.length*23:=by rw[<-hlen];exact hj
  have hdiv:j / 23<pl.length:=by omega
  have e1:(pl.flatMap cc)[j]? =some (cc pl[j / 23]!)[j % 23]! :=by
   have:=Apl.flat_at (ec:=cc) eP pl (j / 23) pl[j / 23] (j % 23) (cc pl[j / 23])[j % 23]! (List.getElem?_eq_getElem hdiv) (by
    rw[getElem!_pos (cc pl[j / 23]) (j % 23) (Nat.mod_lt _ (by decide))]
    exact List.getElem?_eq_getElem _)
   rw[show j / 23*23+j % 23=j by omega]at this
   rw[this,getElem!_pos pl (j / 23) hdiv]
  rw[<-ht,List.getElem?_take,if_pos hj2]at e1
  have e2:pl.toArray[j / 23]! =pl[j / 23]! :=by simp
  rw[e2]
  simp only[World.cell?,hg]
  simp only[Option.isSome_none,Bool.false_eq_true,if_false]
  simpa using e1
 have C:=AnyQ.slices_SortFunc Tryz.sfp 23 Tryz.isAgg169 Tryz.sizeOf169 cc eP (fun x v hv=>gU _ v hv) cmpP swoP 97 #[] g 0 cap pl.toArray W entersP (fun m os dk _ x y=>pc_any x y _) hH hlt (by rw[hlen];omega)
 rw[hlen]at C
 refine C.mono ?_
 rintro e w' ⟨rfl,d',m,os,hp,hs,rfl⟩
 have hsz:d'.size=pl.length:=hp.1.trans hlen
 have hH2:=Go.Proofs.holdsK_sortWorldK_c cc 23 W g 0 pl.toArray d' m os hH hlt hp.1
 refine⟨rfl,⟨rfl,rfl,rfl,Go.Proofs.size_sortWorldK_c cc 23 W g 0 m d' os,fun k hk hne=> ?_⟩,d'.toList,some ⟨g,0,none⟩,cap,rfl, ?_, ?_, ?_⟩
 ·have hkg:g≠k:=fun e=>hne (by rw[e];rfl)
  unfold sortWorldK
  rw[Sort.heap_grow_old _ _ (by unfold Sort.putRowK;rw[Sort.size_putRow];exact hk)]
  simp[Sort.putRowK,Sort.putRow,Sort.mapBlock,Sort.ahead,Array.getElem?_modify,hkg]
 ·have h3:=hp.2.2
  have h4:d'.extract 0 pl.length=d':=by rw[<-hsz];simp
  have h5:pl.toArray.extract 0 pl.length=pl.toArray:=by rw[<-hlen];simp
  rw[h4,h5]at h3
  exact h3
 ·rw[List.pairwise_iff_getElem]
  intro i j hi hj hij
  have h3:=hs i j (Nat.zero_le _) hij (by rw[<-hsz];simpa using hj)
  have hi':i<d'.size:=by simpa using hi
  have hj':j<d'.size:=by simpa using hj
  rw[getElem!_pos d' i hi',getElem!_pos d' j hj',Bool.eq_false_iff,ne_eq,ltP]at h3
  rw[Array.getElem_toList,Array.getElem_toList]
  exact h3
 ·refine⟨fun _=>⟨g,0,rfl,fun j x hj p u hu=> ?_⟩⟩
  have hjl:j<d'.size:=by have:=(List.getElem?_eq_some_iff.1 hj).1;simpa using this
  have hpl:p<23:=(List.getElem?_eq_some_iff.1 hu).1
  have h3:=(hH2.cell hjl hpl).1
  have hy':d'[j]! =x:=by
   rw[getElem!_pos d' j hjl]
   have:=(List.getElem?_eq_some_iff.1 hj).2
   simpa using this
  rw[hy']at h3
  have hu':(cc x)[p]! =u:=by
   rw[getElem!_pos (cc x) p hpl]
   exact(List.getElem?_eq_some_iff.1 hu).2
  rw[hu',Nat.add_assoc]at h3
  exact h3
end Go.Proofs.YtekfoaenomgjgaaGreatDoor
namespace Go.Cs
open Go
def plZ:Pl:=default
def pls(l:List (Pr×Hd)):List Pl:=l.zipIdx.map fun p=>(p.1,(p.2:Int))
theorem dv(l:List (Pr×Hd)):(pls l).length=l.length:=by simp[pls]
theorem pls_at{l:List (Pr×Hd)}{k:Nat}{x:Pr×Hd}(h:l[k]? =some x):(pls l)[k]? =some (x,(k:Int)):=by simp[pls,List.getElem?_zipIdx,h]
end Go.Cs
namespace Go.Proofs.YtekfoaenomgjgaaGreatDoor
open Go.RowKit Go.W32 Go.Blk Go.Cs Go.Lib Go.Opn Go.Mg

theorem info_pl:(Tryz.prog.info? 169).map (fun i=>(i.zero,i.size,i.bytes))=some (some (.agg (cc plZ).toArray),23,208):=by kernel_rfl
theorem made_pls(n:Nat)(hn:n<=4000)(W:World):(Instr.makeSlice 167 (.int .i64 (n:Int)) (.int .i64 (n:Int))).run Tryz.prog W= .ok (.slice (some ⟨W.heap.size,0,none⟩) n n) (W.alloc (.cells (madeCells (cc plZ).toArray (n*23)) 169)):=by
 obtain⟨i,hi,hz,hs,hy⟩:=bG info_pl
 have h:=run_make (P:=Tryz.prog) W 167 169 i _ Tryz.underlying167 hi hz .i64 .i64 (n:Int) (n:Int) (by omega) (by omega) (by rw[hy];omega) (by omega)
 rw[h,hs,Int.toNat_natCast]
 all_goals rfl
theorem made_ints(n:Nat)(hn:n<=4000)(W:World):(Instr.makeSlice 22 (.int .i64 (n:Int)) (.int .i64 (n:Int))).run Tryz.prog W= .ok (.slice (some ⟨W.heap.size,0,none⟩) n n) (W.alloc (.cells (madeCells (Cs.encI 0).toArray (n*1)) 3)):=by
 obtain⟨i,hi,hz,hs,hy⟩:=bG info_int
 have h:=run_make (P:=Tryz.prog) W 22 3 i _ Tryz.underlying22 hi hz .i64 .i64 (n:Int) (n:Int) (by omega) (by omega) (by rw[hy];omega) (by omega)
 rw[h,hs,Int.toNat_natCast]
 all_goals rfl
theorem exec_buildPl{ρ:Operand->Value}{op:Oper}{w:World}{x y:Operand}(ho:op.op= .build 169 #[(0,x),(1,y)])(m:Pr×Hd)(k:Int)(hx:ρ x= .agg (bH m).toArray)(hy:ρ y= .int .i64 k):
  (execOp ρ op).run Tryz.prog w= .ok (.value (.agg (cc (m,k)).toArray)) w:=by
 unfold execOp
 simp only[ho,hx,hy,List.map_toArray,List.map_cons,List.map_nil]
 unfold cc bH aw
 simp only[List.cons_append,List.nil_append]
 go_simp
theorem encI_one(n:Int):∀v∈Cs.encI n,v.oneCell'=true:=fun v hv=>by simp[Cs.encI]at hv;subst hv;rfl
structure O1 (W:World) (l:List (Pr×Hd)) (k:Nat) (w:World):Prop where
 own:w.ownsRow W.heap.size 169 23 (.slice (some ⟨W.heap.size,0,none⟩) l.length l.length) l.length ((Sel.part (pls l) plZ k).flatMap cc)
 below:Below W.heap.size W w
theorem O1.grow{W w w':World}{l:List (Pr×Hd)}{k:Nat}(h:O1 W l k w)(hb:Below w.heap.size w w'):O1 W l k w':=
 ⟨owns_keep h.own fun _ hg=>hb.block _ (owns_lt h.own hg).2,h.below.trans (hb.mono h.below.size)⟩
structure O2 (w0:World) (g2:Nat) (pl:List Pl) (k:Nat) (w:World):Prop where
 own:w.ownsRow w0.heap.size 3 1 (.slice (some ⟨g2,0,none⟩) pl.length pl.length) pl.length ((Sel.part (pl.map (·.2)) 0 k).flatMap Cs.encI)
 below:Below w0.heap.size w0 w
theorem O2.grow{w0 w w':World}{g2:Nat}{pl:List Pl}{k:Nat}(h:O2 w0 g2 pl k w)(hb:Below w.heap.size w w'):O2 w0 g2 pl k w':=
 ⟨owns_keep h.own fun _ hg=>hb.block _ (owns_lt h.own hg).2,h.below.trans (hb.mono h.below.size)⟩
def OrPost(l:List (Pr×Hd))(W:World)(e:Ending)(w':World):Prop:=
 Below W.heap.size W w'/\∃(A:Option Addr) (c:Nat) (pl:List Pl),e= .returned (.slice A pl.length c)/\SL w' 1 Cs.encI A (pl.map (·.2))/\pl.Perm (pls l)/\pl.Pairwise (fun a b=> ¬b.lt a)/\∀k,A.map (·.block)=some k->W.heap.size<=k/\∃c t f,w'.heap[k]? =some (.cells c t f)
set_option maxHeartbeats 2000000 in
theorem or2_any(A:Option Addr)(c:Nat)(l:List (Pr×Hd))(W:World)(hl:SL W 22 bH A l)(hn:l.length<=4000):Calls Tryz.prog 65 #[.slice A l.length c] W (OrPost l W):=by
 obtain⟨R,eR⟩:∃R,R=OrPost l W:=⟨_,rfl⟩
 rw[<-eR]
 have ER:Hid (∀e w',OrPost l W e w'->R e w'):=h_ fun e w' h=>by rw[eR];exact h
 clear eR
 have HL:=h_ hl
 have hIA:(Tryz.prog.info? 62).map (·.size)=some 22:=by kernel_rfl
 have hIP:(Tryz.prog.info? 169).map (·.size)=some 23:=by kernel_rfl
 have hmk:=made_pls l.length hn W
 obtain⟨W1,e1⟩:∃W1,W1=W.alloc (.cells (madeCells (cc plZ).toArray (l.length*23)) 169):=⟨_,rfl⟩
 have h1:O1 W l 0 W1:=by
  rw[e1]
  refine⟨?_,(Below.refl _ _).alloc (Nat.le_refl _) _⟩
  rw[Sel.part_zero,dv]
  exact Sel.own_made eP (by decide) plZ W l.length l.length (Nat.le_refl _) (by unfold maxLen;omega) (Nat.le_refl _)
 rw[<-e1]at hmk
 have HIA:=h_ hIA
 have HIP:=h_ hIP
 have HN:=h_ hn
 have H1:=h_ h1
 clear hIA hIP h1 hl e1 hn
 go_enter Tryz.func65,Tryz.ntmps65
 go_wp2_with fail
 clear hmk
 go_loopw [14] (fun v wr=> ∃k:Nat,v= .int .i64 (k:Int)/\k<=l.length/\O1 W l k wr) (fun v _=>(l.length:Int).toNat- (RowKit.intOf v).toNat)
 case atStart=>exact⟨0,rfl,Nat.zero_le _,H1.out⟩
 case round=>
  clear H1
  obtain⟨k,rfl,hk,hra⟩:=hrel
  rcases Nat.lt_or_eq_of_le hk with hkl|hkl
  ·have hki:(k:Int)<(l.length:Int):=by omega
   obtain⟨x,ex⟩:∃x,l[k]? =some x:=⟨_,List.getElem?_eq_getElem hkl⟩
   have hsl:=HL.out.below hra.below (Nat.le_refl _)
   obtain⟨b,off,rfl⟩:=aC hsl (by intro e;rw[e]at hkl;simp at hkl)
   obtain⟨cs,ecs⟩:∃cs,cs=bH x:=⟨_,rfl⟩
   have hcl:cs.length=22:=by rw[ecs];rfl
   have HC:Hid (wr.rangeAt b (off+k*22) cs):=h_ (by rw[ecs];exact az hsl ex)
   have HIC:Hid ((Tryz.prog.info? 62).map (·.size)=some cs.length):=by show _=_;rw[hcl];exact HIA.out
   obtain⟨W5,e5⟩:∃W5,W5=wr.alloc (.cells cs.toArray 62):=⟨_,rfl⟩
   have hb5:Below wr.heap.size wr W5:=by rw[e5];exact(Below.refl _ _).alloc (Nat.le_refl _) _
   have hr5:Row W5 wr.heap.size 62 cs:=by rw[e5];exact Row.new _ _ _
   have HST:=h_ (Sel.store_box HIC.out (by rw[ecs];exact dG x) 5 18 wr W5 _ rfl e5)
   have HM5:=h_ hr5.rg
   have h5:=hra.grow hb5
   have HSE:Hid (∀(Q:Exit->Act->World->Prop) (ops:Array Oper) (rest:List Oper) (o:Oper) (a:Act),o.guard=none->o.op= .store 169 (.tmp 24) (.tmp 23)->a.eval (.tmp 24)= .pointer (some ⟨W.heap.size,k*23,none⟩)->a.eval (.tmp 23)= .agg (cc (x,(k:Int))).toArray->(∀w9,Hid (O1 W l (k+1) w9)->wpList Tryz.prog ops Q rest (a.put o.dst undef) w9)->wpList Tryz.prog ops Q (o::rest) a W5):=h_ (by
    intro Q ops rest o a hgd ho hx hy hK
    have hpl:=Sel.part_len (pls l) plZ (k:=k) (by rw[dv];omega)
    rw[dv]at hpl
    have ho5:=h5.own
    rw[<-hpl]at ho5
    refine Sel.wpList_store_elem hgd 169 (.tmp 24) (.tmp 23) ho eP gU (cap:=(Sel.part (pls l) plZ k).length) ho5 k (by rw[hpl];exact hkl) (x,(k:Int)) hx hy HIP.out ?_
    intro w9 o9 g9 _
    refine hK w9 (h_ ⟨?_,h5.below.trans (aj g9 (fun g hg=>by injection hg with e;omega) h5.below.size)⟩)
    rw[hpl,Sel.part_set _ _ (pls_at ex)]at o9
    exact o9)
   have HBP:Hid (∀ {ρ:Operand->Value} {op:Oper} {w:World},op.op= .build 169 #[(0, .tmp 21),(1, .tmp 22)]->ρ (.tmp 21)= .agg cs.toArray->ρ (.tmp 22)= .int .i64 (k:Int)->(execOp ρ op).run Tryz.prog w= .ok (.value (.agg (cc (x,(k:Int))).toArray)) w):=h_ fun ho hx hy=>exec_buildPl ho x k (by rw[hx,ecs]) hy
   have HCL:=h_ hcl
   have hkb:(k:Int)+1<=9223372036854775807:=by have:=HN.out;omega
   obtain⟨es,ees⟩:∃es,es=(cc (x,(k:Int))).toArray:=⟨_,rfl⟩
   rw[<-ees]at HSE HBP
   clear ecs hcl e5 hb5 hr5 h5 hsl ex hra ees hk
   go_wp2_with (first
    |(refine ae (.tmp 17) ?_;refine wpList_load_mid rfl 62 (.tmp 17) rfl b (off+k*22) rfl cs _ HC.out Tryz.underlying62 rfl HIC.out ?_)
    |(refine ai (.tmp 5) ?_;refine HST.out _ _ _ _ _ rfl rfl rfl rfl _ (by simp[HCL.out]) ?_;simp only[Pt])
    |(refine ae (.tmp 5) ?_;refine wpList_load_mid rfl 62 (.tmp 5) rfl wr.heap.size 0 rfl cs _ HM5.out Tryz.underlying62 rfl HIC.out ?_)
    |(refine at_build (.tmp 21) ?_;refine Row.still (by first|exact Free.wanted_of rfl rfl rfl|rfl) (HBP.out rfl rfl rfl) ?_;simp only[Pt])
    |(refine ai (.tmp 24) ?_;refine HSE.out _ _ _ _ _ rfl rfl rfl rfl ?_;intro w9 H9;simp only[Pt]))
   go_roundw
   case rel=>exact⟨k+1,rfl,hkl,H9.out⟩
   case measure=>simp[RowKit.intOf];omega
  ·have hki: ¬(k:Int)<(l.length:Int):=by omega
   have hown:=hra.own
   rw[Sel.part_all _ _ (by rw[dv];omega)]at hown
   have SP:=h_ (sp_any (pls l) W.heap.size _ wr (by rw[dv];exact hown) (by rw[dv];exact HN.out))
   have HB:=h_ hra.below
   have HW0:Hid (W.heap.size<wr.heap.size):=h_ (World.ownsRow.lt hra.own _ rfl).2
   clear hown hra hk hkl
   go_wp2_with fail
   refine SP.out.mono ?_
   rintro e w2 ⟨rfl,hg2,pl,A2,c2,ev,hpp,hpw,hsl2⟩
   have hpl:pl.length=l.length:=by rw[hpp.length_eq,dv]
   rw[dv]at ev
   injection ev with eA _ ec
   subst eA ec
   have hb2:Below W.heap.size W w2:=HB.out.trans (aj hg2 (fun g hg=>Nat.le_of_eq (Option.some.inj hg)) HB.out.size)
   have hmk:=made_ints l.length HN.out w2
   obtain⟨W3,e3⟩:∃W3,W3=w2.alloc (.cells (madeCells (Cs.encI 0).toArray (l.length*1)) 3):=⟨_,rfl⟩
   rw[<-e3]at hmk
   have h3:O2 w2 w2.heap.size pl 0 W3:=by
    rw[e3]
    refine⟨?_,(Below.refl _ _).alloc (Nat.le_refl _) _⟩
    rw[Sel.part_zero,List.length_map,hpl]
    exact Sel.own_made (enc:=Cs.encI) (sz:=1) (fun _=>rfl) Nat.one_pos 0 w2 l.length l.length (Nat.le_refl _) (by have:=HN.out;unfold maxLen;omega) (Nat.le_refl _)
   have HB2:=h_ hb2
   have H3:=h_ h3
   have HPL:=h_ hpl
   have HPP:=h_ hpp
   have HPW:=h_ hpw
   have HSL:=h_ hsl2
   clear hg2 hpp hpw hsl2 hpl hb2 e3 h3 SP HB
   go_wp2_with fail
   clear hmk
   go_loopw [33] (fun v wr=> ∃k:Nat,v= .int .i64 (k:Int)/\k<=l.length/\O2 w2 w2.heap.size pl k wr) (fun v _=>(l.length:Int).toNat- (RowKit.intOf v).toNat)
   case atStart=>exact⟨0,rfl,Nat.zero_le _,H3.out⟩
   case round=>
    clear H3
    obtain⟨k,rfl,hk,hra⟩:=hrel
    rcases Nat.lt_or_eq_of_le hk with hkl|hkl
    ·have hki:(k:Int)<(l.length:Int):=by omega
     obtain⟨x,ex⟩:∃x,pl[k]? =some x:=⟨_,List.getElem?_eq_getElem (by rw[HPL.out];exact hkl)⟩
     obtain⟨cs,ecs⟩:∃cs,cs=cc x:=⟨_,rfl⟩
     have hcl:cs.length=23:=by rw[ecs];rfl
     have HC:Hid (wr.rangeAt W.heap.size (k*23) cs):=h_ (by rw[ecs];have h:=az (HSL.out.below hra.below (Nat.le_refl _)) ex;rwa[Nat.zero_add]at h)
     have HIC:Hid ((Tryz.prog.info? 169).map (·.size)=some cs.length):=by show _=_;rw[hcl];exact HIP.out
     obtain⟨W5,e5⟩:∃W5,W5=wr.alloc (.cells cs.toArray 169):=⟨_,rfl⟩
     have hb5:Below wr.heap.size wr W5:=by rw[e5];exact(Below.refl _ _).alloc (Nat.le_refl _) _
     have hr5:Row W5 wr.heap.size 169 cs:=by rw[e5];exact Row.new _ _ _
     have HST:=h_ (Sel.store_box HIC.out (by rw[ecs];exact gU x) 8 37 wr W5 _ rfl e5)
     have h5:=hra.grow hb5
     have c22:=hr5.at (show cs[22]? =some (.int .i64 x.2) by rw[ecs];rfl)
     have hpl2:(Sel.part (pl.map (·.2)) 0 k).length=l.length:=by rw[Sel.part_len _ _ (by rw[List.length_map,HPL.out];omega),List.length_map,HPL.out]
     have ho5:=h5.own
     rw[HPL.out]at ho5
     have hoc:=Sel.own_cell (enc:=Cs.encI) (fun _=>rfl) (by rw[hpl2];exact ho5) k 0 (Sel.part_at (pl.map (·.2)) 0 (by rw[List.length_map,HPL.out];exact hkl)) x.2 (.int .i64 x.2) (by decide) rfl
     rw[hpl2,Sel.part_set _ _ (show(pl.map (·.2))[k]? =some x.2 by rw[List.getElem?_map,ex];rfl),Nat.mul_one,Nat.add_zero]at hoc
     have cw:=ho5.cellAt k (by omega)
     rw[show((Sel.part (pl.map (·.2)) 0 k).flatMap Cs.encI)[k]? =some (.int .i64 0) by
      have h:=Sel.flat_at (enc:=Cs.encI) (sz:=1) (fun _=>rfl) (Sel.part_at (pl.map (·.2)) 0 (k:=k) (by rw[List.length_map,HPL.out];exact hkl)) (show(Cs.encI 0)[0]? =some (.int .i64 0) from rfl)
      rwa[Nat.mul_one,Nat.add_zero]at h]at cw
     have fw:=ho5.frozenAt k
     have hlt2:w2.heap.size<=W5.heap.size:=h5.below.size
     have HN9:Hid (O2 w2 w2.heap.size pl (k+1) (W5.setCell ⟨w2.heap.size,k,none⟩ (.int .i64 x.2))):=h_ ⟨by rw[HPL.out];exact hoc.1,h5.below.trans (aj hoc.2 (fun g hg=>Nat.le_of_eq (Option.some.inj hg)) hlt2)⟩
     have HCL:=h_ hcl
     have hkb:(k:Int)+1<=9223372036854775807:=by have:=HN.out;omega
     clear ecs hcl e5 hb5 hr5 h5 ex hra hk hoc ho5 hpl2 hlt2
     go_wp2_with (first
      |(refine ae (.tmp 36) ?_;refine wpList_load_mid rfl 169 (.tmp 36) rfl W.heap.size (k*23) rfl cs _ HC.out Tryz.underlying169 rfl HIC.out ?_)
      |(refine ai (.tmp 8) ?_;refine HST.out _ _ _ _ _ rfl rfl rfl rfl _ (by simp[HCL.out]) ?_;simp only[Pt]))
     go_roundw
     case rel=>exact⟨k+1,rfl,hkl,HN9.out⟩
     case measure=>simp[RowKit.intOf];omega
    ·have hki: ¬(k:Int)<(l.length:Int):=by omega
     have hown:=hra.own
     rw[Sel.part_all _ _ (by rw[List.length_map,HPL.out];omega)]at hown
     have HF:Hid (R (.returned (.slice (some ⟨w2.heap.size,0,none⟩) l.length l.length)) wr):=h_ (ER.out _ _ ⟨HB2.out.trans (hra.below.mono HB2.out.size),some ⟨w2.heap.size,0,none⟩,l.length,pl,by rw[HPL.out],by
      have h:=hown
      rw[show pl.length=(pl.map (·.2)).length by rw[List.length_map]]at h
      exact aW (fun _=>rfl) h,HPP.out,HPW.out,fun k e=>by
       injection e with e
       rw[<-e]
       refine⟨HB2.out.size, ?_⟩
       rcases hra.own.2 with⟨h,_⟩|⟨g,cap,cur,h,_,hg,_⟩
       ·cases h
       ·injection h with h _
        injection h with h
        injection h with h _
        rw[h];exact⟨_,_,_,hg⟩⟩)
     clear hown hra hk hkl
     go_wp2_with fail
     exact HF.out
end Go.Proofs.YtekfoaenomgjgaaGreatDoor
