/- Package consent: what Agreed leans on: lengths, numbers, the states of its loops. No condition. Package consent: slices.SortFunc of amendments by their numbers. No condition. Package consent: the states of Agreed's second, third and fourth loop. No condition. Package consent: Agreed. Condition: the variables of digest and strconv hold their numbers. Package consent: what Contradictions leans on: the states of its loops. No condition. Package consent: Contradictions. Condition: the variables of digest and strconv hold their numbers. -/
import Derived.Test.YtekfoaenomgjgaaGreatDoorYD
import Derived.Test.YtekfoaenomgjgaaGreatDoorYA
import Derived.Shelf.SlSortCmp.WholeK
import Derived.Shelf.SlSortCmp.NoneTotal
import Derived.Test.YtekfoaenomgjgaaGreatDoorYB
import Derived.Laws.MakeOwn
set_option maxRecDepth 100000
set_option linter.all false
namespace Go.Proofs.YtekfoaenomgjgaaGreatDoor
open Go.RowKit Go.W32 Go.Blk Go.Cs Go.Lib Go.Opn Go.Mg

theorem put_length{α β:Type}[DecidableEq α](l:List (α×β))(x:α)(v:β):(Mk.put l x v).length<=l.length+1:=by
 induction l with
 |nil=>simp[Mk.put]
 |cons p r ih=>
  unfold Mk.put
  split
  ·simp
  ·simp;omega
theorem gJ(D:Let->ByteArray)(parties:Int)(l:List Rl):(bl D parties l).length<=l.length:=by
 induction l using cS with
 |h0=>simp[bl]
 |h1 l r ih=>
  have e:bl D parties (l++ [r])=cX D parties (bl D parties l) r:=by simp[bl]
  rw[e,List.length_append]
  have h1:=put_length (bl D parties l) (D r.1) ⟨r.1,r.2,D r.1,0⟩
  have h2: [r].length=1:=rfl
  unfold cX
  split
  ·split
   ·split<;>omega
   ·omega
  ·omega
structure PrIn (W:World) (p:Pr):Prop where
 ok:PrOk p
 at_:PatAt W p.x.patch p.h
 cl:p.x.patch.cl.length<=400
 st:p.x.patch.new.start.length<=8
 num:0<=p.x.number/\p.x.number<=1000000
theorem counts_small{k parties:Int}{x:Let}(h:aQ k parties x=true)(hk:k=1):x.patch.cl.length<=400/\x.patch.new.start.length<=8/\0<=x.number/\x.number<=1000000:=by
 subst hk
 unfold aQ at h
 rw[Bool.and_eq_true,decide_eq_true_eq]at h
 obtain⟨⟨hk,_⟩,hf⟩:=h
 unfold Let.formed at hf
 rw[Bool.and_eq_true]at hf
 obtain⟨hb,hf⟩:=hf
 unfold Let.base at hb
 rw[decide_eq_true_eq]at hb
 rw[if_pos hk,Bool.and_eq_true]at hf
 have:=hf.2
 unfold Pat.small at this
 rw[Bool.and_eq_true,decide_eq_true_eq,decide_eq_true_eq]at this
 exact⟨this.1,this.2,by omega,hb.2.2.2.1⟩
theorem props_in{parties:Int}{A:Option Addr}{l:List Rl}{W:World}(hl:LetsAt W A l):∀e∈bl DG parties l,PrIn W e.2:=fun e he=>by
 obtain⟨r,hr,hc,hx,hh,hs⟩:=props_from DG parties l e he
 have hs2:=(props_good DG parties l).2 e he
 have:=counts_small hc rfl
 refine⟨⟨by rw[hx];exact hl.ok r hr,by rw[hs2,hs];have:=DG_size r.1;omega⟩,by rw[hx,hh];exact hl.pat r hr,by rw[hx];exact this.1,by rw[hx];exact this.2.1,by rw[hx];exact this.2.2⟩
theorem prIn_known{W:World}{p:Pr}(h:PrIn W p)(k:Int):PrIn W {p with known:=k}:=⟨⟨h.ok.x,h.ok.sum⟩,h.at_,h.cl,h.st,h.num⟩
theorem encPr_known(p:Pr)(k:Int):(bd p).set 26 (.int .i64 k)=bd {p with known:=k}:=rfl
theorem dD{α β:Type}[DecidableEq α](f:β->α)(l:List β){k:α}{g:List β}(h:(k,g)∈aN f id l):g.length<=l.length:=by
 rw[((cg f id l).1 h).1,List.length_map]
 exact List.length_filter_le _ _
theorem fL{α β:Type}[DecidableEq α](f:β->α)(l:List β){k:α}{g:List β}(h:(k,g)∈aN f id l):∀x∈g,x∈l:=by
 rw[((cg f id l).1 h).1,List.map_id]
 exact fun x hx=>(List.mem_filter.1 hx).1
structure L1 (W:World) (parties:Int) (l:List Rl) (b2 b3:Nat) (done left:List (ByteArray×Pr)) (w:World):Prop where
 rg:Mk.RangeIs w Value.string tOk pV W.heap.size (b3+1) (bl DG parties l) left
 perm:(done++left).Perm (bl DG parties l)
 acc:Mk.MapIs w aV aOk nV b2 (dH parties l)
 grp:∃L,Groups w sV sOk bd (b3+2) 81 27 b3 L/\bQ L=aN Pr.slot id (done.map fun e=>bS parties (dH parties l) e.2)
 below:Below W.heap.size W w
 size:b3+2<=w.heap.size
 lt:W.heap.size<b2/\b2<b3
theorem cU{α β:Type}{w w':World}{enc:α->Value}{ok:α->Prop}{encV:β->Value}{b r:Nat}{l left:List (α×β)}(h:Mk.RangeIs w enc ok encV b r l left)(hb:Below w.heap.size w w'):Mk.RangeIs w' enc ok encV b r l left:=
 h.keep (hb.block _ h.map.lt) (hb.block _ h.lt)
theorem L1.grow{W w w':World}{parties:Int}{l:List Rl}{b2 b3:Nat}{done left:List (ByteArray×Pr)}(h:L1 W parties l b2 b3 done left w)(hb:Below w.heap.size w w'):L1 W parties l b2 b3 done left w':=by
 obtain⟨L,hg,hL⟩:=h.grp
 exact⟨cU h.rg hb,h.perm,h.acc.keep (hb.block _ h.acc.lt),⟨L,hg.keep (hb.block _ hg.map.lt) (fun g _ hg=>hb.block _ hg),hL⟩,h.below.trans (hb.mono h.below.size),Nat.le_trans h.size hb.size,h.lt⟩
structure L1m (W:World) (parties:Int) (l:List Rl) (b2 b3:Nat) (done:List (ByteArray×Pr)) (p:ByteArray×Pr) (left:List (ByteArray×Pr)) (w:World):Prop where
 rg:Mk.RangeIs w Value.string tOk pV W.heap.size (b3+1) (bl DG parties l) left
 perm:((done++ [p])++left).Perm (bl DG parties l)
 acc:Mk.MapIs w aV aOk nV b2 (dH parties l)
 grp:∃L,Groups w sV sOk bd (b3+2) 81 27 b3 L/\bQ L=aN Pr.slot id (done.map fun e=>bS parties (dH parties l) e.2)
 below:Below W.heap.size W w
 size:b3+2<=w.heap.size
 lt:W.heap.size<b2/\b2<b3
theorem L1m.grow{W w w':World}{parties:Int}{l:List Rl}{b2 b3:Nat}{p:ByteArray×Pr}{done left:List (ByteArray×Pr)}(h:L1m W parties l b2 b3 done p left w)(hb:Below w.heap.size w w'):L1m W parties l b2 b3 done p left w':=by
 obtain⟨L,hg,hL⟩:=h.grp
 exact⟨cU h.rg hb,h.perm,h.acc.keep (hb.block _ h.acc.lt),⟨L,hg.keep (hb.block _ hg.map.lt) (fun g _ hg=>hb.block _ hg),hL⟩,h.below.trans (hb.mono h.below.size),Nat.le_trans h.size hb.size,h.lt⟩
theorem L1.next{W w w5:World}{parties:Int}{l:List Rl}{b2 b3:Nat}{p:ByteArray×Pr}{done left pre post:List (ByteArray×Pr)}(h:L1 W parties l b2 b3 done left w)(hl:left=pre++p::post)
  (hr:Mk.RangeIs w5 Value.string tOk pV W.heap.size (b3+1) (bl DG parties l) (pre++post)) (hg:w.grownBy w5 (some (b3+1))) (hz:w5.heap.size=w.heap.size):L1m W parties l b2 b3 done p (pre++post) w5/\p∈bl DG parties l:=by
 obtain⟨L,hG,hL⟩:=h.grp
 have hlt:=h.lt
 refine⟨⟨hr, ?_,h.acc.keep (hg.block _ h.acc.lt (fun e=>by injection e with e;omega)),⟨L,hG.keep (hg.block _ hG.map.lt (fun e=>by injection e with e;omega)) (fun g h1 h2=>hg.block _ h2 (fun e=>by injection e with e;omega)),hL⟩,h.below.trans (aj hg (fun g hg=>by injection hg with e;omega) h.below.size),by rw[hz];exact h.size,hlt⟩,h.rg.mem p (by rw[hl];simp)⟩
 refine List.Perm.trans ?_ h.perm
 rw[hl,List.append_assoc]
 refine List.Perm.append_left done ?_
 show(p::(pre++post)).Perm (pre++p::post)
 exact List.perm_middle.symm
theorem L1m.len{W w:World}{parties:Int}{l:List Rl}{b2 b3:Nat}{p:ByteArray×Pr}{done left:List (ByteArray×Pr)}(h:L1m W parties l b2 b3 done p left w){L:List (dy×(Value×List Pr))}(hL:bQ L=aN Pr.slot id (done.map fun e=>bS parties (dH parties l) e.2))(hn:l.length<=4000):
  ∀e∈L,e.2.2.length+1<=maxLen/\(e.2.2.length+1)*256<=140737488355328:=fun e he=>by
 have h1:(e.1,e.2.2)∈aN Pr.slot id (done.map fun e=>bS parties (dH parties l) e.2):=by rw[<-hL];exact List.mem_map.2 ⟨e,he,rfl⟩
 have h2:=dD _ _ h1
 have h3:=h.perm.length_eq
 have h4:=gJ DG parties l
 rw[List.length_map]at h2
 rw[List.length_append,List.length_append]at h3
 unfold maxLen
 omega
end Go.Proofs.YtekfoaenomgjgaaGreatDoor

namespace Go.Proofs.YtekfoaenomgjgaaGreatDoor
open Go.RowKit Go.W32 Go.Blk Go.Cs Go.Lib Go.Opn Go.Mg
abbrev AmS:= {x:Pr×Hd // 0<=x.1.x.number/\x.1.x.number<=1000000}
instance:Inhabited AmS:=⟨⟨(prZ,⟨none,0,none,0⟩),by decide⟩⟩
def encS(x:AmS):List Value:=bH x.1
def cfS(x y:AmS):Int:=x.1.1.x.number-y.1.1.x.number
theorem ltS(x y:AmS):ltOf cfS x y=decide (x.1.1.x.number<y.1.1.x.number):=by
 unfold ltOf cfS
 rw[decide_eq_decide]
 omega
theorem swoS:Sort.SWO (ltOf cfS) where
 irrefl x:=by rw[ltS];simp
 trans x y z h1 h2:=by rw[ltS]at*;simp at*;omega
 ntrans x y z h1 h2:=by rw[ltS]at*;simp at*;omega
set_option maxHeartbeats 1000000 in
theorem s1_any(x y:AmS)(W:World):Calls Tryz.prog 36 #[.agg (encS x).toArray, .agg (encS y).toArray] W fun e w'=>e= .returned (.int .i64 (cfS x y))/\∃q os',w'=Sort.grow (W.drewN q) os':=by
 obtain⟨cs,ecs⟩:∃cs,cs=encS x:=⟨_,rfl⟩
 obtain⟨ds,eds⟩:∃ds,ds=encS y:=⟨_,rfl⟩
 rw[<-ecs, <-eds]
 have hr1:Row (W.alloc (.cells cs.toArray 62)) W.heap.size 62 cs:=Row.new _ _ _
 have hr1':Row ((W.alloc (.cells cs.toArray 62)).alloc (.cells ds.toArray 62)) W.heap.size 62 cs:=hr1.below ((Below.refl _ _).alloc (Nat.le_refl _) _) hr1.lt
 have hr2:Row ((W.alloc (.cells cs.toArray 62)).alloc (.cells ds.toArray 62)) (W.heap.size+1) 62 ds:=by
  have:=Row.new (W.alloc (.cells cs.toArray 62)) 62 ds
  rwa[show(W.alloc (.cells cs.toArray 62)).heap.size=W.heap.size+1 by simp]at this
 have c0:=hr1'.at (show cs[0]? =some (.int .i64 x.1.1.x.number) by rw[ecs];rfl)
 have d0:=hr2.at (show ds[0]? =some (.int .i64 y.1.1.x.number) by rw[eds];rfl)
 have hx:=x.2
 have hy:=y.2
 have hw:IntKind.i64.wrap (x.1.1.x.number-y.1.1.x.number)=x.1.1.x.number-y.1.1.x.number:=by simp[IntKind.wrap,IntKind.bits,IntKind.signed];omega
 unfold cfS
 clear hr1 hr1' hr2 ecs eds
 go_enter Tryz.func36,Tryz.ntmps36
 go_wp2_with fail
 go_ret
 exact⟨by first|rfl|rw[hw],0,_,by rw[Sort.alloc_eq_grow,Sort.alloc_eq_grow,Sort.grow_grow];rfl⟩
theorem entersS(args:Array Value)(w:World):(callFunc 36 args).run Tryz.prog w= .ok (.enter 36 args) w:=enters_of Tryz.func36 (by kernel_rfl) rfl args w
theorem lift_small:∀(am:List (Pr×Hd)),(∀x∈am,0<=x.1.x.number/\x.1.x.number<=1000000)->∃ds:List AmS,ds.map Subtype.val=am
 | [],_=>⟨[],rfl⟩
 |x::r,h=>by
  obtain⟨ds,hd⟩:=lift_small r fun y hy=>h y (by simp[hy])
  exact⟨⟨x,h x (by simp)⟩::ds,by simp[hd]⟩
theorem encS_len(x:AmS):(encS x).length=22:=rfl
theorem flat_lift(ds:List AmS):(ds.map Subtype.val).flatMap bH=ds.flatMap encS:=by
 rw[List.flatMap_map];rfl
theorem owns_form{w:World}{base:Nat}{T:TypeId}{sz n:Nat}{v:Value}{xs:List Value}(h:w.ownsRow base T sz v n xs):∃A c,v= .slice A n c:=by
 rcases h.2 with⟨rfl,rfl⟩|⟨g,cap,cur,rfl,_⟩
 ·exact⟨_,_,rfl⟩
 ·exact⟨_,_,rfl⟩
set_option maxHeartbeats 1000000 in
theorem so_any(am:List (Pr×Hd))(base:Nat)(v:Value)(W:World)(h:W.ownsRow base 62 22 v am.length (am.flatMap bH))(hn:∀x∈am,0<=x.1.x.number/\x.1.x.number<=1000000)(hl:am.length<=4000):
  Calls Tryz.prog 35 #[v, .func (.func 36) #[] #[]] W fun e w'=>e= .returned (.tuple #[])/\W.grownBy w' v.ownBlock/\∃am' A c,v= .slice A am.length c/\am'.Perm am/\am'.Pairwise (fun a b=>a.1.num<=b.1.num)/\SL w' 22 bH A am':=by
 by_cases h0:am= []
 ·subst h0
  obtain⟨A,c,rfl⟩:=owns_form h
  refine(AnyF.slices_SortFunc_none Tryz.sfa A c _ W).mono ?_
  rintro e w' ⟨rfl,rfl⟩
  exact⟨rfl,⟨rfl,rfl,rfl,Nat.le_refl _,fun _ _ _=>rfl⟩,[],A,c,rfl,List.Perm.refl _,List.Pairwise.nil,SL.nil⟩
 obtain⟨ds,hd⟩:=lift_small am hn
 obtain⟨g,cap,cur,rfl,hb,hg,hn1,hm,ht,_⟩:=Apl.own_at (ec:=bH) (fun _=>rfl) h h0
 have hlen:ds.toArray.size=am.length:=by rw[<-hd];simp
 have hlt:g<W.heap.size:=(Array.getElem?_eq_some_iff.1 hg).1
 have hH:Sort.HoldsK encS 22 W g 0 ds.toArray:=by
  intro j hj
  rw[Sort.size_flatK]at hj
  rw[Sort.get_flatK _ _ _ _ hj,Nat.zero_add]
  refine⟨?_,by simp[World.frozen?,hg]⟩
  have hj2:j<am.length*22:=by rw[<-hlen];exact hj
  have hdiv:j / 22<ds.length:=by
    have:ds.length=am.length:=by rw[<-hlen];simp
    omega
  have e1:(am.flatMap bH)[j]? =some (encS ds[j / 22]!)[j % 22]! :=by
   rw[<-hd,flat_lift]
   have:=Apl.flat_at (ec:=encS) encS_len ds (j / 22) ds[j / 22] (j % 22) (encS ds[j / 22])[j % 22]! (List.getElem?_eq_getElem hdiv) (by
    rw[getElem!_pos (encS ds[j / 22]) (j % 22) (Nat.mod_lt _ (by decide))]
    exact List.getElem?_eq_getElem _)
   rw[show j / 22*22+j % 22=j by omega]at this
   rw[this,getElem!_pos ds (j / 22) hdiv]
  rw[<-ht,List.getElem?_take,if_pos hj2]at e1
  have e2:ds.toArray[j / 22]! =ds[j / 22]! :=by simp
  rw[e2]
  simp only[World.cell?,hg]
  simp only[Option.isSome_none,Bool.false_eq_true,if_false]
  simpa using e1
 have C:=AnyQ.slices_SortFunc Tryz.sfa 22 Tryz.isAgg62 Tryz.sizeOf62 encS (fun _=>rfl) (fun x v hv=>dG _ v hv) cfS swoS 36 #[] g 0 cap ds.toArray W entersS (fun m os dk _ x y=>s1_any x y _) hH hlt (by rw[hlen];omega)
 rw[hlen]at C
 refine C.mono ?_
 rintro e w' ⟨rfl,d',m,os,hp,hs,rfl⟩
 have hsz:d'.size=am.length:=hp.1.trans hlen
 have hH2:=Go.Proofs.holdsK_sortWorldK_c encS 22 W g 0 ds.toArray d' m os hH hlt hp.1
 refine⟨rfl,⟨rfl,rfl,rfl,Go.Proofs.size_sortWorldK_c encS 22 W g 0 m d' os,fun k hk hne=> ?_⟩,d'.toList.map Subtype.val,some ⟨g,0,none⟩,cap,rfl, ?_, ?_, ?_⟩
 ·have hkg:g≠k:=fun e=>hne (by rw[e];rfl)
  unfold sortWorldK
  rw[Sort.heap_grow_old _ _ (by unfold Sort.putRowK;rw[Sort.size_putRow];exact hk)]
  simp[Sort.putRowK,Sort.putRow,Sort.mapBlock,Sort.ahead,Array.getElem?_modify,hkg]
 ·have h3:=hp.2.2
  have h4:d'.extract 0 am.length=d':=by rw[<-hsz];simp
  have h5:ds.toArray.extract 0 am.length=ds.toArray:=by rw[<-hlen];simp
  rw[h4,h5]at h3
  rw[<-hd]
  exact h3.map _
 ·rw[List.pairwise_map,List.pairwise_iff_getElem]
  intro i j hi hj hij
  have h3:=hs i j (Nat.zero_le _) hij (by rw[<-hsz];simpa using hj)
  rw[ltS]at h3
  have hi':i<d'.size:=by simpa using hi
  have hj':j<d'.size:=by simpa using hj
  rw[getElem!_pos d' i hi',getElem!_pos d' j hj']at h3
  have h4:=of_decide_eq_false h3
  show d'.toList[i].1.1.x.number<=d'.toList[j].1.1.x.number
  rw[Array.getElem_toList,Array.getElem_toList]
  omega
 ·refine⟨fun _=>⟨g,0,rfl,fun j x hj p u hu=> ?_⟩⟩
  rw[List.getElem?_map]at hj
  obtain⟨y,hy,rfl⟩:=Option.map_eq_some_iff.1 hj
  have hjl:j<d'.size:=by have:=(List.getElem?_eq_some_iff.1 hy).1;simpa using this
  have hpl:p<22:=(List.getElem?_eq_some_iff.1 hu).1
  have h3:=(hH2.cell hjl hpl).1
  have hy':d'[j]! =y:=by
   rw[getElem!_pos d' j hjl]
   have:=(List.getElem?_eq_some_iff.1 hy).2
   simpa using this
  rw[hy']at h3
  have hu':(encS y)[p]! =u:=by
   rw[getElem!_pos (encS y) p hpl]
   exact(List.getElem?_eq_some_iff.1 hu).2
  rw[hu',Nat.add_assoc]at h3
  exact h3
end Go.Proofs.YtekfoaenomgjgaaGreatDoor

namespace Go.Proofs.YtekfoaenomgjgaaGreatDoor
open Go.RowKit Go.W32 Go.Blk Go.Cs Go.Lib Go.Opn Go.Mg

theorem put_flat{α β:Type}[DecidableEq α](m:List (α×List β))(k:α)(x:β):((Mk.put m k ((Mk.get m k).getD []++ [x])).flatMap (·.2)).Perm (m.flatMap (·.2)++ [x]):=by
 induction m with
 |nil=>exact List.Perm.refl _
 |cons p r ih=>
  rw[Mk.put,Mk.get]
  by_cases h:p.1=k
  ·rw[if_pos h,if_pos h,List.flatMap_cons,List.flatMap_cons,Option.getD_some]
   show((p.2++ [x])++r.flatMap (·.2)).Perm ((p.2++r.flatMap (·.2))++ [x])
   rw[List.append_assoc,List.append_assoc]
   exact List.Perm.append_left _ List.perm_append_comm
  ·rw[if_neg h,if_neg h,List.flatMap_cons,List.flatMap_cons,List.append_assoc]
   exact List.Perm.append_left _ ih
theorem groups_flat{α β:Type}[DecidableEq α](f:β->α)(l:List β):((aN f id l).flatMap (·.2)).Perm l:=by
 induction l using cS with
 |h0=>exact List.Perm.refl _
 |h1 l x ih=>
  rw[bN]
  exact(put_flat _ _ _).trans (List.Perm.append_right _ ih)
theorem groups_count{α β γ:Type}[DecidableEq α](f:β->α)(v:β->γ)(l:List β):(aN f v l).length<=l.length:=by
 induction l using cS with
 |h0=>simp[aN]
 |h1 l x ih=>
  rw[bN,List.length_append]
  have:=put_length (aN f v l) (f x) ((Mk.get (aN f v l) (f x)).getD []++ [v x])
  have h1: [x].length=1:=rfl
  unfold grp
  omega
theorem cq{α β:Type}(g:α->List β)(F:α->List β)(h:∀x,(F x).length<=(g x).length):∀l:List α,(l.flatMap F).length<=(l.flatMap g).length
 | []=>by simp
 |x::r=>by
  rw[List.flatMap_cons,List.flatMap_cons,List.length_append,List.length_append]
  have:=cq g F h r
  have:=h x
  omega
abbrev GrS:=List (dy×(Value×List Pr))
abbrev GrN:=List (Int×(Value×List Pr))
def vf(parties:Int)(l:List Rl)(e:dy×(Value×List Pr)):List Pr:=e.2.2.filter fun p=>cm p e.2.2 ((Mk.get (wds parties l) e.1).getD [])
theorem vf_len(parties:Int)(l:List Rl)(e:dy×(Value×List Pr)):(vf parties l e).length<=e.2.2.length:=List.length_filter_le _ _
theorem strip_flat{α β:Type}(L:List (α×(Value×List β))):(bQ L).flatMap (·.2)=L.flatMap (·.2.2):=by
 unfold bQ
 rw[List.flatMap_map]
structure GL2 (w0:World) (parties:Int) (l:List Rl) (L:GrS) (b3:Nat) (done left:GrS) (w:World):Prop where
 rg:Mk.RangeIs w sV sOk Prod.fst b3 (w0.heap.size+1) L left
 perm:(done++left).Perm L
 num:∃L5:GrN,Groups w nV bn bd (w0.heap.size+2) 81 27 w0.heap.size L5/\bQ L5=aN Pr.num id (done.flatMap (vf parties l))
 below:Below w0.heap.size w0 w
 size:w0.heap.size+2<=w.heap.size
structure GL3 (w0:World) (parties:Int) (l:List Rl) (L:GrS) (b3:Nat) (done:GrS) (e:dy×(Value×List Pr)) (left:GrS) (k:Nat) (w:World):Prop where
 rg:Mk.RangeIs w sV sOk Prod.fst b3 (w0.heap.size+1) L left
 perm:((done++ [e])++left).Perm L
 num:∃L5:GrN,Groups w nV bn bd (w0.heap.size+2) 81 27 w0.heap.size L5/\bQ L5=aN Pr.num id (done.flatMap (vf parties l)++(e.2.2.take k).filter fun p=>cm p e.2.2 ((Mk.get (wds parties l) e.1).getD []))
 below:Below w0.heap.size w0 w
 size:w0.heap.size+2<=w.heap.size
section
variable {w0 w w':World} {parties:Int} {l:List Rl} {L done left:GrS} {e:dy×(Value×List Pr)} {b3 k:Nat}
theorem GL2.grow(h:GL2 w0 parties l L b3 done left w)(hb:Below w.heap.size w w'):GL2 w0 parties l L b3 done left w':=by
 obtain⟨L5,hg,hL⟩:=h.num
 exact⟨cU h.rg hb,h.perm,⟨L5,hg.keep (hb.block _ hg.map.lt) (fun g _ hg=>hb.block _ hg),hL⟩,h.below.trans (hb.mono h.below.size),Nat.le_trans h.size hb.size⟩
theorem GL3.grow(h:GL3 w0 parties l L b3 done e left k w)(hb:Below w.heap.size w w'):GL3 w0 parties l L b3 done e left k w':=by
 obtain⟨L5,hg,hL⟩:=h.num
 exact⟨cU h.rg hb,h.perm,⟨L5,hg.keep (hb.block _ hg.map.lt) (fun g _ hg=>hb.block _ hg),hL⟩,h.below.trans (hb.mono h.below.size),Nat.le_trans h.size hb.size⟩
theorem GL2.next{pre post:GrS}(h:GL2 w0 parties l L b3 done left w)(hl:left=pre++e::post)(hr:Mk.RangeIs w' sV sOk Prod.fst b3 (w0.heap.size+1) L (pre++post))(hg:w.grownBy w' (some (w0.heap.size+1))):
  GL3 w0 parties l L b3 done e (pre++post) 0 w'/\e∈L:=by
 obtain⟨L5,hG,hL⟩:=h.num
 have hsz:=h.size
 refine⟨⟨hr, ?_,⟨L5,hG.keep (hg.block _ hG.map.lt (fun e=>by injection e with e;omega)) (fun g h1 h2=>hg.block _ h2 (fun e=>by injection e with e;omega)),by rw[hL,List.take_zero,List.filter_nil,List.append_nil]⟩,h.below.trans (aj hg (fun g hg=>by injection hg with e;omega) h.below.size),Nat.le_trans h.size hg.size⟩,h.rg.mem e (by rw[hl];simp)⟩
 refine List.Perm.trans ?_ h.perm
 rw[hl,List.append_assoc]
 refine List.Perm.append_left done ?_
 show(e::(pre++post)).Perm (pre++e::post)
 exact List.perm_middle.symm
theorem GL3.fin(h:GL3 w0 parties l L b3 done e left k w)(hk:e.2.2.length<=k):GL2 w0 parties l L b3 (done++ [e]) left w:=by
 obtain⟨L5,hg,hL⟩:=h.num
 refine⟨h.rg,h.perm,⟨L5,hg, ?_⟩,h.below,h.size⟩
 rw[hL,List.take_of_length_le hk,List.flatMap_append,List.flatMap_singleton]
 rfl
theorem GL3.skip(h:GL3 w0 parties l L b3 done e left k w){p:Pr}(hp:e.2.2[k]? =some p)(hv:cm p e.2.2 ((Mk.get (wds parties l) e.1).getD [])=false):GL3 w0 parties l L b3 done e left (k+1) w:=by
 obtain⟨L5,hg,hL⟩:=h.num
 refine⟨h.rg,h.perm,⟨L5,hg, ?_⟩,h.below,h.size⟩
 rw[hL,List.take_add_one,hp,Option.toList_some,List.filter_append]
 simp[hv]
theorem GL3.add(h:GL3 w0 parties l L b3 done e left k w){p:Pr}(hp:e.2.2[k]? =some p)(hv:cm p e.2.2 ((Mk.get (wds parties l) e.1).getD [])=true){L5:GrN}(hL:bQ L5=aN Pr.num id (done.flatMap (vf parties l)++(e.2.2.take k).filter fun p=>cm p e.2.2 ((Mk.get (wds parties l) e.1).getD [])))
  {u:Value} (hg:Groups w' nV bn bd (w0.heap.size+2) 81 27 w0.heap.size (Mk.put L5 p.x.number (u,((Mk.get L5 p.x.number).map Prod.snd).getD []++ [p]))) (ho:Oth (w0.heap.size+2) w0.heap.size w w') (hb3:b3<w0.heap.size):
  GL3 w0 parties l L b3 done e left (k+1) w':=by
 refine⟨h.rg.keep (ho.block _ (by omega) (by omega)) (ho.block _ (by omega) (by omega)),h.perm,⟨_,hg, ?_⟩,h.below.trans (ho.below (by omega) (Nat.le_refl _)),Nat.le_trans h.size ho.size⟩
 rw[fF,List.take_add_one,hp,Option.toList_some,List.filter_append,List.filter_cons_of_pos (by exact hv),List.filter_nil, <-List.append_assoc]
 rw[bN, <-hL]
 unfold grp
 rw[dE]
 rfl
theorem GL3.total(h:GL3 w0 parties l L b3 done e left k w)(hL:(L.flatMap (·.2.2)).length<=4000){L5:GrN}(h5:bQ L5=aN Pr.num id (done.flatMap (vf parties l)++(e.2.2.take k).filter fun p=>cm p e.2.2 ((Mk.get (wds parties l) e.1).getD [])))(hk:k<e.2.2.length):
  ∀x∈L5,x.2.2.length+1<=maxLen/\(x.2.2.length+1)*256<=140737488355328:=fun x hx=>by
 have h1:(x.1,x.2.2)∈aN Pr.num id (done.flatMap (vf parties l)++(e.2.2.take k).filter fun p=>cm p e.2.2 ((Mk.get (wds parties l) e.1).getD [])):=by rw[<-h5];exact List.mem_map.2 ⟨x,hx,rfl⟩
 have h2:=dD _ _ h1
 have h3:=(h.perm.flatMap_right (·.2.2)).length_eq
 rw[List.flatMap_append,List.flatMap_append,List.flatMap_singleton,List.length_append,List.length_append]at h3
 rw[List.length_append]at h2
 have h4:=cq (·.2.2) (vf parties l) (vf_len parties l) done
 have h5:((e.2.2.take k).filter fun p=>cm p e.2.2 ((Mk.get (wds parties l) e.1).getD [])).length<=k:=Nat.le_trans (List.length_filter_le _ _) (by rw[List.length_take];omega)
 unfold maxLen
 omega
end
structure GL4 (w1:World) (b5:Nat) (L5 done left:GrN) (am:List (Pr×Hd)) (v:Value) (w:World):Prop where
 rg:Mk.RangeIs w nV bn Prod.fst b5 w1.heap.size L5 left
 perm:(done++left).Perm L5
 out:w.ownsRow (w1.heap.size+1) 62 22 v am.length (am.flatMap bH)
 pat:∀x∈am,PatOwn (w1.heap.size+1) w x.1.x.patch x.2
 eq:am.map Prod.fst=done.filterMap fun e=>bD Pr.known e.2.2
 below:Below w1.heap.size w1 w
 size:w1.heap.size+1<=w.heap.size
theorem PatOwn.keep{lo:Nat}{w w':World}{p:Pat}{h:Hd}(ho:PatOwn lo w p h)(hk:∀g,lo<=g->g<w.heap.size->w'.heap[g]? =w.heap[g]?):PatOwn lo w' p h:=
 ⟨owns_keep ho.cl fun g hg=>hk g (owns_lt ho.cl hg).1 (owns_lt ho.cl hg).2,owns_keep ho.st fun g hg=>hk g (owns_lt ho.st hg).1 (owns_lt ho.st hg).2⟩
theorem cv{w:World}{lo lo':Nat}{T T':TypeId}{sz sz' n n':Nat}{v v':Value}{xs xs':List Value}(h:w.ownsRow lo T sz v n xs)(h':w.ownsRow lo' T' sz' v' n' xs')(hT:T≠T'){g:Nat}(hg:v.ownBlock=some g):v'.ownBlock≠some g:=fun hg'=>by
 rcases h.2 with⟨rfl,_⟩|⟨g1,_,cur,rfl,_,h2,_⟩
 ·cases hg
 rcases h'.2 with⟨rfl,_⟩|⟨g2,_,cur',rfl,_,h2',_⟩
 ·cases hg'
 injection hg with e1
 injection hg' with e2
 subst e1
 have e2:g2=g1:=e2
 rw[e2,h2]at h2'
 injection h2' with h2'
 injection h2' with _ h2'
 exact hT h2'
theorem PatOwn.keepT{lo lo':Nat}{w w':World}{p:Pat}{h:Hd}{v:Value}{n:Nat}{xs:List Value}(ho:PatOwn lo w p h)(hr:w.ownsRow lo' 62 22 v n xs)(hk:∀g,g<w.heap.size->v.ownBlock≠some g->w'.heap[g]? =w.heap[g]?):PatOwn lo w' p h:=
 ⟨owns_keep ho.cl fun g hg=>hk g (owns_lt ho.cl hg).2 (fun e=>cv ho.cl hr (by decide) hg e),owns_keep ho.st fun g hg=>hk g (owns_lt ho.st hg).2 (fun e=>cv ho.st hr (by decide) hg e)⟩
theorem aW{α:Type}{ec:α->List Value}{sz:Nat}{w:World}{base c:Nat}{e:TypeId}{A:Option Addr}{l:List α}(hec:∀x,(ec x).length=sz)(h:w.ownsRow base e sz (.slice A l.length c) l.length (l.flatMap ec)):SL w sz ec A l:=by
 by_cases h0:l= []
 ·subst h0;exact SL.nil
 ·obtain⟨g,cap,cur,hv,_,_,_,_,_,hs⟩:=Apl.own_at hec h h0
  injection hv with hv
  rw[hv];exact hs
theorem PatOwn.at_{lo:Nat}{w:World}{p:Pat}{h:Hd}(ho:PatOwn lo w p h):PatAt w p h:=⟨aW (fun _=>rfl) ho.cl,aW (fun _=>rfl) ho.st⟩
section
variable {w1 w w':World} {L5 done left:GrN} {e:Int×(Value×List Pr)} {b5:Nat} {am:List (Pr×Hd)} {v:Value}
theorem GL4.grow(h:GL4 w1 b5 L5 done left am v w)(hb:Below w.heap.size w w'):GL4 w1 b5 L5 done left am v w':=
 ⟨cU h.rg hb,h.perm,owns_keep h.out fun g hg=>hb.block _ (owns_lt h.out hg).2,fun x hx=>(h.pat x hx).keep fun g _ hg=>hb.block _ hg,h.eq,h.below.trans (hb.mono h.below.size),Nat.le_trans h.size hb.size⟩
structure GM4 (w1:World) (b5:Nat) (L5 done:GrN) (e:Int×(Value×List Pr)) (left:GrN) (am:List (Pr×Hd)) (v:Value) (w:World):Prop where
 rg:Mk.RangeIs w nV bn Prod.fst b5 w1.heap.size L5 left
 perm:((done++ [e])++left).Perm L5
 out:w.ownsRow (w1.heap.size+1) 62 22 v am.length (am.flatMap bH)
 pat:∀x∈am,PatOwn (w1.heap.size+1) w x.1.x.patch x.2
 eq:am.map Prod.fst=done.filterMap fun e=>bD Pr.known e.2.2
 below:Below w1.heap.size w1 w
 size:w1.heap.size+1<=w.heap.size
theorem GM4.grow(h:GM4 w1 b5 L5 done e left am v w)(hb:Below w.heap.size w w'):GM4 w1 b5 L5 done e left am v w':=
 ⟨cU h.rg hb,h.perm,owns_keep h.out fun g hg=>hb.block _ (owns_lt h.out hg).2,fun x hx=>(h.pat x hx).keep fun g _ hg=>hb.block _ hg,h.eq,h.below.trans (hb.mono h.below.size),Nat.le_trans h.size hb.size⟩
theorem GL4.next{pre post:GrN}(h:GL4 w1 b5 L5 done left am v w)(hl:left=pre++e::post)(hr:Mk.RangeIs w' nV bn Prod.fst b5 w1.heap.size L5 (pre++post))(hg:w.grownBy w' (some w1.heap.size)):
  GM4 w1 b5 L5 done e (pre++post) am v w'/\e∈L5:=by
 refine⟨⟨hr, ?_,owns_keep h.out fun g hgo=>hg.block _ (owns_lt h.out hgo).2 (fun e=>by have:=(owns_lt h.out hgo).1;injection e with e;omega),fun x hx=>(h.pat x hx).keep fun g hg1 hg2=>hg.block _ hg2 (fun e=>by injection e with e;omega),h.eq,h.below.trans (aj hg (fun g hg=>by injection hg with e;omega) h.below.size),Nat.le_trans h.size hg.size⟩,h.rg.mem e (by rw[hl];simp)⟩
 refine List.Perm.trans ?_ h.perm
 rw[hl,List.append_assoc]
 refine List.Perm.append_left done ?_
 show(e::(pre++post)).Perm (pre++e::post)
 exact List.perm_middle.symm
theorem GM4.skip(h:GM4 w1 b5 L5 done e left am v w)(hf:bD Pr.known e.2.2=none):GL4 w1 b5 L5 (done++ [e]) left am v w:=
 ⟨h.rg,h.perm,h.out,h.pat,by rw[h.eq,List.filterMap_append];simp[hf],h.below,h.size⟩
theorem GM4.add(h:GM4 w1 b5 L5 done e left am v w){p:Pr}{hd:Hd}(hf:bD Pr.known e.2.2=some p)(hp:PatOwn (w1.heap.size+1) w p.x.patch hd){u:Value}(hb5:b5<w1.heap.size)
  (ho:w'.ownsRow (w1.heap.size+1) 62 22 u (am.length+1) ((am++ [(p,hd)]).flatMap bH)) (hg:w.grownBy w' v.ownBlock):GL4 w1 b5 L5 (done++ [e]) left (am++ [(p,hd)]) u w':=by
 have hne:∀g,g<w1.heap.size+1->(some g:Option Nat)≠v.ownBlock:=fun g hgl e=>by have:=(owns_lt h.out e.symm).1;omega
 have hk:∀g,g<w.heap.size->v.ownBlock≠some g->w'.heap[g]? =w.heap[g]? :=fun g hgl hv=>hg.block g hgl (fun e=>hv e.symm)
 refine⟨h.rg.keep (hg.block _ h.rg.map.lt (hne _ (by omega))) (hg.block _ h.rg.lt (hne _ (by omega))),h.perm,by rw[List.length_append];exact ho,fun x hx=> ?_,by rw[List.map_append,h.eq,List.filterMap_append];simp[hf],h.below.trans (aj hg (fun g hgo=>by have:=(owns_lt h.out hgo).1;omega) h.below.size),Nat.le_trans h.size hg.size⟩
 rcases List.mem_append.1 hx with hx|hx
 ·exact(h.pat x hx).keepT h.out hk
 ·rw[List.mem_singleton]at hx
  subst hx
  exact hp.keepT h.out hk
theorem GL4.count(h:GL4 w1 b5 L5 done left am v w):am.length<=L5.length:=by
 have h1:=h.perm.length_eq
 have h2:=congrArg List.length h.eq
 rw[List.length_map]at h2
 have h3:=List.length_filterMap_le (fun e:Int×(Value×List Pr)=>bD Pr.known e.2.2) done
 rw[List.length_append]at h1
 omega
end
theorem dL{w:World}{lo:Nat}{T T':TypeId}{sz n g:Nat}{v:Value}{xs cs:List Value}(h:w.ownsRow lo T sz v n xs)(hr:Row w g T' cs)(hT:T≠T'):v.ownBlock≠some g:=fun hg=>by
 rcases h.2 with⟨rfl,_⟩|⟨g1,_,cur,rfl,_,h2,_⟩
 ·cases hg
 injection hg with e1
 have e1:g1=g:=e1
 unfold Row at hr
 rw[e1,hr]at h2
 injection h2 with h2
 injection h2 with _ h2
 exact hT h2.symm
theorem ap{w:World}{lo lo':Nat}{T:TypeId}{sz n:Nat}{v:Value}{xs:List Value}(h:w.ownsRow lo T sz v n xs)(hl:lo'<=lo):w.ownsRow lo' T sz v n xs:=by
 rcases h with⟨h0,⟨rfl,h2⟩|⟨g',cap,cur,rfl,h1,h3⟩⟩
 ·exact⟨h0, .inl ⟨rfl,h2⟩⟩
 ·exact⟨h0, .inr ⟨g',cap,cur,rfl,by omega,h3⟩⟩
theorem PatOwn.mono{lo lo':Nat}{w:World}{p:Pat}{h:Hd}(ho:PatOwn lo w p h)(hl:lo'<=lo):PatOwn lo' w p h:=⟨ap ho.cl hl,ap ho.st hl⟩
theorem owns_count{α:Type}{ec:α->List Value}{sz:Nat}{w:World}{base:Nat}{e:TypeId}{v:Value}{l:List α}(hec:∀x,(ec x).length=sz)(h:w.ownsRow base e sz v l.length (l.flatMap ec)):l.length<=9223372036854775807:=by
 by_cases h0:l= []
 ·subst h0;simp
 ·obtain⟨_,cap,_,_,_,_,h1,h2,_⟩:=Apl.own_at hec h h0
  unfold maxLen at h2
  omega
theorem cz{w:World}{base:Nat}{T:TypeId}{sz n:Nat}{v:Value}{xs:List Value}(h:w.ownsRow base T sz v n xs):∃A c,v= .slice A n c:=by
 rcases h.2 with⟨rfl,rfl⟩|⟨g,cap,cur,rfl,_⟩
 ·exact⟨_,_,rfl⟩
 ·exact⟨_,_,rfl⟩
theorem look_wd{w0:World}{bw:Nat}{parties:Int}{l:List Rl}{Lw:List (dy×(Value×List Int))}(h:Groups w0 sV sOk Cs.encI (bw+3) 3 1 bw Lw)(hL:bQ Lw=wds parties l)(x:dy):
  ∃A2 c2 zs,zs=(Mk.get (wds parties l) x).getD []/\((Mk.get Lw x).map Prod.fst).getD (.slice none 0 0)= .slice A2 zs.length c2/\SL w0 1 Cs.encI A2 zs/\zs.length<=9223372036854775807:=by
 obtain⟨v,zs,hv,hz,hr,_⟩:=h.at x
 obtain⟨A2,c2,e⟩:=cz hr
 refine⟨A2,c2,zs, ?_,by rw[hv,e], ?_,owns_count (ec:=Cs.encI) (fun _=>rfl) hr⟩
 ·rw[<-hz, <-hL,dE]
 ·rw[e]at hr;exact aW (ec:=Cs.encI) (fun _=>rfl) hr
theorem grp_open{α:Type}{enc:α->Value}{ok:α->Prop}{w0:World}{base b:Nat}{L:List (α×(Value×List Pr))}(h:Groups w0 enc ok bd base 81 27 b L){e:α×(Value×List Pr)}(he:e∈L)(hne:e.2.2≠ []):
  ∃g c,e.2.1= .slice (some ⟨g,0,none⟩) e.2.2.length c/\SL w0 27 bd (some ⟨g,0,none⟩) e.2.2/\g<w0.heap.size:=by
 obtain⟨g,c,cur,hv,_,hg,_,_,_,hs⟩:=Apl.own_at (ec:=bd) (fun _=>rfl) (h.row e he) hne
 exact⟨g,c,hv,hs,(Array.getElem?_eq_some_iff.1 hg).1⟩
theorem firstF_mem{β:Type}{v:β->Int}{l:List β}{p:β}(h:bD v l=some p):p∈l:=by
 rcases fst_inv v l with⟨_,h0⟩|⟨r,b,pre,post,hl,h0,_⟩
 ·unfold bD at h;rw[h0]at h;cases h
 ·unfold bD at h
  rw[h0]at h
  cases b with
  |false=>cases h
  |true=>
   injection h with h
   subst h
   rw[hl];simp
theorem grp_in{W:World}{done:List (ByteArray×Pr)}{parties:Int}{l:List Rl}{L:GrS}(hL:bQ L=aN Pr.slot id (done.map fun e=>bS parties (dH parties l) e.2))(hp:done.Perm (bl DG parties l))(hn:l.length<=4000)
  (hin:∀e∈bl DG parties l,PrIn W e.2):(L.flatMap (·.2.2)).length<=4000/\∀e∈L,e.2.2≠ []/\e.2.2.length<=4000/\(∀p∈e.2.2,PrIn W p)/\∀p∈e.2.2,p.slot=e.1:=by
 have h4:=gJ DG parties l
 have hlen:(done.map fun e=>bS parties (dH parties l) e.2).length<=4000:=by rw[List.length_map,hp.length_eq];omega
 refine⟨by rw[<-strip_flat,hL,(groups_flat _ _).length_eq];exact hlen,fun e he=> ?_⟩
 have h1:(e.1,e.2.2)∈aN Pr.slot id (done.map fun e=>bS parties (dH parties l) e.2):=by rw[<-hL];exact List.mem_map.2 ⟨e,he,rfl⟩
 refine⟨((cg _ _ _).1 h1).2,Nat.le_trans (dD _ _ h1) hlen,fun p hp2=> ?_,fun p hp2=> ?_⟩
 rotate_left
 ·have h2:=((cg _ _ _).1 h1).1
  rw[List.map_id]at h2
  rw[h2,List.mem_filter]at hp2
  simpa using hp2.2
 obtain⟨d,hd,rfl⟩:=List.mem_map.1 (fL _ _ h1 p hp2)
 exact prIn_known (hin d (hp.mem_iff.1 hd)) _
theorem num_in{W:World}{parties:Int}{l:List Rl}{L done:GrS}{L5:GrN}(h5:bQ L5=aN Pr.num id (done.flatMap (vf parties l)))(hp:done.Perm L)(ht:(L.flatMap (·.2.2)).length<=4000)(hin:∀e∈L,∀p∈e.2.2,PrIn W p):
  L5.length<=4000/\∀e∈L5,e.2.2≠ []/\e.2.2.length<=4000/\∀p∈e.2.2,PrIn W p:=by
 have h4:=cq (·.2.2) (vf parties l) (vf_len parties l) done
 have h6:=(hp.flatMap_right (·.2.2)).length_eq
 have h7:=groups_count Pr.num id (done.flatMap (vf parties l))
 have h8:=congrArg List.length h5
 have h9:(bQ L5).length=L5.length:=by simp[bQ]
 refine⟨by omega,fun e he=> ?_⟩
 have h1:(e.1,e.2.2)∈aN Pr.num id (done.flatMap (vf parties l)):=by rw[<-h5];exact List.mem_map.2 ⟨e,he,rfl⟩
 refine⟨((cg _ _ _).1 h1).2,Nat.le_trans (dD _ _ h1) (by omega),fun p hp2=> ?_⟩
 obtain⟨d,hd,hpd⟩:=List.mem_flatMap.1 (fL _ _ h1 p hp2)
 exact hin d (hp.mem_iff.1 hd) p (List.mem_filter.1 hpd).1
theorem ag_fin{parties:Int}{l:List Rl}{done1:List (ByteArray×Pr)}{L done2:GrS}{L5 done4:GrN}{am out:List Pr}(hk:bz parties l=true)(h1:done1.Perm (bl DG parties l))
  (h2:bQ L=aN Pr.slot id (done1.map fun e=>bS parties (dH parties l) e.2)) (h3:done2.Perm L) (h4:bQ L5=aN Pr.num id (done2.flatMap (vf parties l))) (h5:done4.Perm L5)
  (h6:am=done4.filterMap fun e=>bD Pr.known e.2.2) (h7:out.Perm am) (h8:out.Pairwise fun a b=>a.num<=b.num):out=df DG parties l:=by
 refine agreed_of_run DG parties hk ⟨done1,bQ done2,bQ done4,h1, ?_, ?_, ?_,h8⟩
 ·rw[<-h2];exact h3.map _
 ·have e1:((bQ done2).flatMap fun e=>e.2.filter fun p=>cm p e.2 ((Mk.get (wds parties l) e.1).getD []))=done2.flatMap (vf parties l):=by
   unfold bQ;rw[List.flatMap_map];rfl
  rw[e1, <-h4]
  exact h5.map _
 ·have e2:((bQ done4).filterMap fun e=>bD Pr.known e.2)=done4.filterMap fun e=>bD Pr.known e.2.2:=by
   unfold bQ;rw[List.filterMap_map];rfl
  rw[e2, <-h6];exact h7
theorem exec_look{P:Program}{ρ:Operand->Value}{op:Oper}{w:World}{α β:Type}[DecidableEq α]{enc:α->Value}{ok:α->Prop}{encV:β->Value}{t k e:TypeId}{b:Nat}{L:List (α×β)}{m x:Operand}(ho:op.op= .lookup t m x false)(K:Mk.Key P k enc ok)(h:Mk.MapIs w enc ok encV b L)(ht:P.underlying t=some (.map k e))
  {z:Value} (hz:(zeroValue e).run P w= .ok z w) {xi:α} (hx:ok xi) (hm:ρ m= .map (some b)) (hxe:ρ x=enc xi) {v:Value} (hv:((Mk.get L xi).map encV).getD z=v):(execOp ρ op).run P w= .ok (.value v) w:=by
 have hrun:=h.look K ht hz hx false
 unfold execOp
 simp only[ho,hm,hxe]
 simp only[Bool.false_eq_true,if_false]at hrun
 rw[hv]at hrun
 simp[hrun,Result.andThen]
theorem at_bs{P:Program}{ops:Array Oper}{rest:List Oper}{a:Act}{Q:Exit->Act->World->Prop}(x:Operand){t:TypeId}{n:Nat}{d:Option Tmp}{ty:TypeId}{ps:String}{af:Array Edge}{g:Option (Nat×Bool)}{w:World}
  (h:wpList P ops Q (⟨d, .buildSlice t n #[(0,x)],ty,ps,af,g⟩::rest) a w):wpList P ops Q (⟨d, .buildSlice t n #[(0,x)],ty,ps,af,g⟩::rest) a w:=h
theorem at_app{P:Program}{ops:Array Oper}{rest:List Oper}{a:Act}{Q:Exit->Act->World->Prop}(s x:Operand){t:TypeId}{d:Option Tmp}{ty:TypeId}{ps:String}{af:Array Edge}{g:Option (Nat×Bool)}{w:World}
  (h:wpList P ops Q (⟨d, .call {callee:= .builtin .append,args:= #[s,x],argTypes:= #[t,t]},ty,ps,af,g⟩::rest) a w):wpList P ops Q (⟨d, .call {callee:= .builtin .append,args:= #[s,x],argTypes:= #[t,t]},ty,ps,af,g⟩::rest) a w:=h
end Go.Proofs.YtekfoaenomgjgaaGreatDoor

namespace Go.Proofs.YtekfoaenomgjgaaGreatDoor
open Go.RowKit Go.W32 Go.Blk Go.Cs Go.Lib Go.Opn Go.Mg

theorem info_pr:(Tryz.prog.info? 81).map (fun i=>(i.zero,i.size,i.bytes))=some (some (pV prZ),27,256):=by kernel_rfl
theorem info_am:(Tryz.prog.info? 62).map (fun i=>(i.zero,i.size,i.bytes))=some (some (.agg (bH (prZ,⟨none,0,none,0⟩)).toArray),22,200):=by kernel_rfl
def AgPost(parties:Int)(l:List Rl)(W:World)(e:Ending)(w':World):Prop:=
 Below W.heap.size W w'/\∃(A:Option Addr) (c:Nat) (am:List (Pr×Hd)),e= .returned (.slice A am.length c)/\SL w' 22 bH A am/\(∀x∈am,PatAt w' x.1.x.patch x.2)/\am.map Prod.fst=df DG parties l/\am.length<=4000
set_option maxHeartbeats 4000000 in
theorem ag_any(parties:Int)(A:Option Addr)(c:Nat)(l:List Rl)(W:World)(hT:HasT W)(hl:LetsAt W A l)(hn:l.length<=4611686018427387903):
  Calls Tryz.prog 10 #[.int .i64 parties, .slice A l.length c] W (AgPost parties l W):=by
 have FIN0:Hid (bz parties l=false->AgPost parties l W (.returned (.slice none 0 0)) W):=h_ fun h=>⟨Below.refl _ _,none,0,[],rfl,SL.nil,fun x hx=>by(cases hx),by unfold df;rw[h];rfl,Nat.zero_le _⟩
 obtain⟨R,eR⟩:∃R,R=AgPost parties l W:=⟨_,rfl⟩
 rw[<-eR]at FIN0⊢
 have ER:Hid (∀e w',AgPost parties l W e w'->R e w'):=h_ fun e w' h=>by rw[eR];exact h
 clear eR
 have hmm:= @run_makeMap Tryz.prog
 by_cases h1:parties<1
 ·have H0:=h_ (FIN0.out (by unfold bz;exact decide_eq_false (by omega)))
  go_enter Tryz.func10,Tryz.ntmps10
  go_wp2_with fail
  exact H0.out
 by_cases h2:parties>12
 ·have H0:=h_ (FIN0.out (by unfold bz;exact decide_eq_false (by omega)))
  go_enter Tryz.func10,Tryz.ntmps10
  go_wp2_with fail
  exact H0.out
 by_cases h3:l.length>4000
 ·have H0:=h_ (FIN0.out (by unfold bz;exact decide_eq_false (by omega)))
  have h3i:(l.length:Int)>4000:=by omega
  go_enter Tryz.func10,Tryz.ntmps10
  go_wp2_with fail
  exact H0.out
 have h3i: ¬(l.length:Int)>4000:=by omega
 have h3n:l.length<=4000:=by omega
 have OKP:Hid (bz parties l=true):=h_ (by unfold bz;exact decide_eq_true (by omega))
 have CP:=h_ (ps_any parties A c l W hT hl hn)
 have CA:Hid (∀w',Below W.heap.size W w'->Calls Tryz.prog 29 #[.int .i64 parties, .slice A l.length c] w' fun e w''=>e= .returned (.map (some w'.heap.size))/\Mk.MapIs w'' aV aOk nV w'.heap.size (dH parties l)/\Below w'.heap.size w' w''):=h_ fun w' hb=>acc_any parties A c l w' (hT.below hb (Nat.le_refl _)) (hl.below hb (Nat.le_refl _)) hn
 have CW:Hid (∀w',Below W.heap.size W w'->Calls Tryz.prog 31 #[.int .i64 parties, .slice A l.length c] w' fun e w''=>e= .returned (.map (some w'.heap.size))/\(∃L,Groups w'' sV sOk Cs.encI (w'.heap.size+3) 3 1 w'.heap.size L/\bQ L=wds parties l)/\Below w'.heap.size w' w''):=h_ fun w' hb=>wd_any parties A c l w' (hT.below hb (Nat.le_refl _)) (hl.below hb (Nat.le_refl _)) h3n
 have PIN:=h_ (props_in (parties:=parties) hl)
 have HIP:Hid ((Tryz.prog.info? 81).map (·.size)=some 27):=by show _=_;kernel_rfl
 have HIS:Hid ((Tryz.prog.info? 84).map (·.size)=some 2):=by show _=_;kernel_rfl
 clear hT hl FIN0
 go_enter Tryz.func10,Tryz.ntmps10
 go_wp2_with fail
 refine CP.out.mono ?_
 rintro e w1 ⟨rfl,hm1,hb1⟩
 have C2:=h_ (CA.out w1 hb1)
 have HM1:=h_ hm1
 have HB1:=h_ hb1
 have hlt1:=hm1.lt
 clear hm1 hb1 CP CA
 go_wp2_with fail
 refine C2.out.mono ?_
 rintro e w2 ⟨rfl,hm2,hb2⟩
 have HM2:=h_ hm2
 have HB2:=h_ (HB1.out.trans (hb2.mono HB1.out.size))
 have HM12:=h_ (HM1.out.keep (hb2.block _ hlt1))
 have hlt2:=hm2.lt
 clear hm2 hb2 C2 HM1
 -- the map of the aN,and the range over the proposals
 obtain⟨b2,eb2⟩:∃b2,b2=w1.heap.size:=⟨_,rfl⟩
 obtain⟨b3,eb3⟩:∃b3,b3=w2.heap.size:=⟨_,rfl⟩
 rw[<-eb2]at HM2 hlt1 hlt2⊢
 have hb3:Below w2.heap.size w2 (w2.alloc (.map #[] 0)):=(Below.refl _ _).alloc (Nat.le_refl _) _
 have z3:(w2.alloc (.map #[] 0)).heap.size=b3+1:=by rw[eb3];simp
 have HM3:Hid (Mk.MapIs (w2.alloc (.map #[] 0)) Value.string tOk pV W.heap.size (bl DG parties l)):=h_ (HM12.out.keep (hb3.block _ HM12.out.lt))
 have HA3:Hid (Mk.MapIs (w2.alloc (.map #[] 0)) aV aOk nV b2 (dH parties l)):=h_ (HM2.out.keep (hb3.block _ HM2.out.lt))
 have HG3:Hid (Groups (w2.alloc (.map #[] 0)) sV sOk bd (b3+2) 81 27 b3 ([]:List (dy×(Value×List Pr)))):=h_ (by rw[eb3];exact Groups.made w2)
 have HB3:Hid (Below W.heap.size W (w2.alloc (.map #[] 0))):=h_ (HB2.out.trans (hb3.mono HB2.out.size))
 have HLT:Hid (W.heap.size<b2/\b2<b3):=h_ ⟨hlt1,by omega⟩
 have Z3:=h_ z3
 have e3:w2.heap.size=b3:=eb3.symm
 clear hb3 z3 hlt1 hlt2 HM12 HM2 HB2 eb3 eb2
 go_wp2_with (refine at_range (.tmp 40) ?_;refine Mk.wpList_range rfl (.tmp 40) rfl HM3.out Tryz.underlying75 rfl ?_;intro w4 hr4 hg4 hz4;have HR4:=h_ hr4;have HG4:=h_ hg4;have HZ4:=h_ hz4;clear hr4 hg4 hz4;simp only[Pt])
 have zz:=Z3.out
 have HR1:Hid (L1 W parties l b2 b3 [] (bl DG parties l) w4):=h_ (by
  have hg:=HG4.out
  refine⟨by have h:=HR4.out;rwa[zz]at h,by simp,HA3.out.keep (hg.block _ HA3.out.lt (by simp)),⟨[],HG3.out.keep (hg.block _ HG3.out.map.lt (by simp)) (fun g h1 h2=>by omega),rfl⟩,HB3.out.trans (aj hg (by simp) HB3.out.size),by have:=HZ4.out;omega,HLT.out⟩)
 rw[zz]
 clear HR4 HG4 HZ4 HM3 HA3 HG3 HB3 HB1 Z3 zz e3
 have PL:=gJ DG parties l
 obtain⟨i0,hi0,hz0,hs0,hy0⟩:=bG info_pr
 have HI0:=h_ hi0
 have HZ0:=h_ hz0
 have HS0:=h_ hs0
 have HY0:=h_ hy0
 clear hi0 hz0 hs0 hy0
 go_loopw [] (fun wr=> ∃done left,L1 W parties l b2 b3 done left wr) (fun wr=>wr.rangeLeft W.heap.size (b3+1))
 case atStart=>exact⟨_,_,HR1.out⟩
 case round=>
  clear HR1
  obtain⟨done,left,hra⟩:=hrel
  have hrl:=hra.rg.left_eq
  have HRG:=h_ hra.rg
  have HRA:=h_ hra
  clear hra
  cases left with
  |nil=>
   have C6:=h_ (CW.out wr HRA.out.below)
   go_wp2_with (refine ge (.tmp 41) ?_;refine Mk.wpList_next rfl (.tmp 41) rfl rfl HRG.out (fun _=> ?_) (fun pre p post w' h=>absurd h (by simp));simp only[Pt])
   refine C6.out.mono ?_
   rintro e w0 ⟨rfl,⟨Lw,hgw,hLw⟩,hb0⟩
   have hra0:=HRA.out.grow hb0
   obtain⟨L,hgL,hLL⟩:=hra0.grp
   have hpm:=hra0.perm
   rw[List.append_nil]at hpm
   have hbw0:b3+2<=wr.heap.size:=HRA.out.size
   obtain⟨bw,ebw⟩:∃bw,bw=wr.heap.size:=⟨_,rfl⟩
   rw[<-ebw]at hgw hbw0⊢
   have GIN:=h_ (grp_in hLL hpm h3n PIN.out)
   have PERM:=h_ hpm
   have HLL:=h_ hLL
   have HGL:=h_ hgL
   have HGW:=h_ hgw
   have LKW:=h_ (look_wd hgw hLw)
   have HB0:=h_ hra0.below
   have HBW:Hid (b3+2<=bw/\bw<w0.heap.size/\b3+2<=w0.heap.size/\W.heap.size<=w0.heap.size):=h_ ⟨hbw0,hgw.map.lt,hra0.size,hra0.below.size⟩
   have hb7:Below w0.heap.size w0 (w0.alloc (.map #[] 0)):=(Below.refl _ _).alloc (Nat.le_refl _) _
   have Z7:Hid ((w0.alloc (.map #[] 0)).heap.size=w0.heap.size+1):=h_ (by simp)
   have HM7:=h_ (hgL.map.keep (hb7.block _ hgL.map.lt))
   have HN7:Hid (Groups (w0.alloc (.map #[] 0)) nV bn bd (w0.heap.size+2) 81 27 w0.heap.size ([]:GrN)):=h_ (Groups.made w0)
   have HB7:=h_ hb7
   clear hgw hLw hb0 hra0 hgL hLL hpm hbw0 ebw hb7 HRA HRG hrl C6 CW PIN
   go_wp2_with (refine at_range (.tmp 70) ?_;refine Mk.wpList_range rfl (.tmp 70) rfl HM7.out Tryz.underlying79 rfl ?_;intro w8 hr8 hg8 hz8;have HR8:=h_ hr8;have HG8:=h_ hg8;have HZ8:=h_ hz8;clear hr8 hg8 hz8;simp only[Pt])
   have z7:=Z7.out
   have H2:Hid (GL2 w0 parties l L b3 [] L w8):=h_ (by
    have hg:=HG8.out
    have h8:=HZ8.out
    refine⟨by have h:=HR8.out;rwa[z7]at h,by simp,⟨[],HN7.out.keep (hg.block _ HN7.out.map.lt (by simp)) (fun g h1 h2=>hg.block _ h2 (by simp)),rfl⟩,HB7.out.trans (aj hg (by simp) HB7.out.size),by omega⟩)
   rw[z7]
   clear HR8 HG8 HZ8 HM7 HN7 HB7 Z7 z7
   go_loopw [] (fun wr=> ∃done left,GL2 w0 parties l L b3 done left wr) (fun wr=>wr.rangeLeft b3 (w0.heap.size+1))
   case atStart=>exact⟨_,_,H2.out⟩
   case round=>
    clear H2
    obtain⟨done2,left2,h2r⟩:=hrel
    have hrl2:=h2r.rg.left_eq
    have HRG2:=h_ h2r.rg
    have HR2:=h_ h2r
    clear h2r
    cases left2 with
    |nil=>
     have h2d:=HR2.out
     obtain⟨w1,rfl⟩:∃w1,w1=wr:=⟨_,rfl⟩
     obtain⟨L5,hg5,hL5⟩:=h2d.num
     have hp2:=h2d.perm
     rw[List.append_nil]at hp2
     have NIN:=h_ (num_in hL5 hp2 GIN.out.1 (fun e he=>(GIN.out.2 e he).2.2.1))
     have HG5:=h_ hg5
     have HL5:=h_ hL5
     have PERM2:=h_ hp2
     have HBX:=h_ h2d.below
     have HSX:=h_ h2d.size
     clear h2d hg5 hL5 hp2 hrl2
     go_wp2_with (first
      |(refine ge (.tmp 71) ?_;refine Mk.wpList_next rfl (.tmp 71) rfl rfl HRG2.out (fun _=> ?_) (fun pre p post w' h=>absurd h (by simp));simp only[Pt])
      |(refine at_range (.tmp 100) ?_;refine Mk.wpList_range rfl (.tmp 100) rfl HG5.out.map Tryz.underlying88 rfl ?_;intro w8 hr8 hg8 hz8;have HR8:=h_ hr8;have HG8:=h_ hg8;have HZ8:=h_ hz8;clear hr8 hg8 hz8;simp only[Pt]))
     have H4:Hid (GL4 w1 w0.heap.size L5 [] L5 [] (.slice none 0 0) w8):=h_ (by
      have hg:=HG8.out
      have h8:=HZ8.out
      exact⟨HR8.out,by simp,World.ownsRow_nil _ _ _ _,fun x hx=>(by cases hx),rfl,aj hg (by simp) (Nat.le_refl _),by omega⟩)
     clear HR8 HG8 HZ8 HRG2 HR2
     go_loopw [17] (fun u wx=> ∃v done left am,v=u/\GL4 w1 w0.heap.size L5 done left am v wx/\∀x∈am,0<=x.1.x.number/\x.1.x.number<=1000000) (fun _ wx=>wx.rangeLeft w0.heap.size w1.heap.size)
     case atStart=>exact⟨_,_,_,_,rfl,H4.out,fun x hx=>(by cases hx)⟩
     case round=>
      clear H4
      obtain⟨v,done4,left4,am,rfl,h4,hnum⟩:=hrel
      have hrl4:=h4.rg.left_eq
      have HRG4:=h_ h4.rg
      have HR4:=h_ h4
      have HNUM:=h_ hnum
      clear h4 hnum
      cases left4 with
      |nil=>
       have h4:=HR4.out
       have hp4:=h4.perm
       rw[List.append_nil]at hp4
       have hcnt:=h4.count
       have hlen4:am.length<=4000:=by have:=NIN.out.1;omega
       have CSO:=h_ (so_any am (w1.heap.size+1) v wr h4.out HNUM.out hlen4)
       have FIN4:Hid (∀w',wr.grownBy w' v.ownBlock->(∃am' A c,v= .slice A am.length c/\am'.Perm am/\am'.Pairwise (fun a b=>a.1.num<=b.1.num)/\SL w' 22 bH A am')->R (.returned v) w'):=h_ fun w' hgr ⟨am',A',c',hva,hpm',hpw,hsl'⟩=>by
        refine ER.out _ _ ⟨?_,A',c',am',by rw[hva,hpm'.length_eq],hsl',fun x hx=> ?_, ?_,by rw[hpm'.length_eq];exact hlen4⟩
        ·have h1:=HB0.out.trans (HBX.out.mono HB0.out.size)
         have h2:=h1.trans (h4.below.mono h1.size)
         refine h2.trans (aj hgr (fun g hg=> ?_) h2.size)
         have:=(owns_lt h4.out hg).1
         have:=h1.size
         omega
        ·exact((h4.pat x (hpm'.mem_iff.1 hx)).keepT h4.out (fun g hg hne=>hgr.block g hg (fun e=>hne e.symm))).at_
        ·exact ag_fin OKP.out PERM.out HLL.out PERM2.out HL5.out hp4 h4.eq (hpm'.map _) (List.pairwise_map.2 hpw)
       clear h4 hp4 hcnt hlen4 hrl4
       go_wp2_with (refine ge (.tmp 101) ?_;refine Mk.wpList_next rfl (.tmp 101) rfl rfl HRG4.out (fun _=> ?_) (fun pre p post w' h=>absurd h (by simp));simp only[Pt])
       refine CSO.out.mono ?_
       rintro e w13 ⟨rfl,hgr,hex⟩
       have HE:=h_ (FIN4.out w13 hgr hex)
       clear hgr hex FIN4 CSO
       go_wp2_with fail
       exact HE.out
      |cons q0 left0=>
       go_wp2_with (first
        |(
          refine ge (.tmp 101) ?_
          refine Mk.wpList_next rfl (.tmp 101) rfl rfl HRG4.out (fun h=>absurd h (by simp)) ?_
          intro pre e post w3 hl3 hr3 hg3 hz3 he3
          obtain⟨h3,hin3⟩:=HR4.out.next hl3 hr3 hg3
          obtain⟨hne3,hlen3,hpin3⟩:=NIN.out.2 e hin3
          obtain⟨gb,cb,hv3,hsl3,hgb3⟩:=grp_open HG5.out hin3 hne3
          have HME4:Hid (wr.rangeLeft w0.heap.size w1.heap.size=(pre++post).length+1):=h_ (by rw[hrl4,hl3];simp;omega)
          obtain⟨gs,egs⟩:∃gs,gs=e.2.2:=⟨_,rfl⟩
          rw[<-egs]at hv3 hsl3 hlen3 hpin3
          rw[hv3]at he3⊢
          have H3:=h_ h3
          have HPIN3:=h_ hpin3
          have EGS:=h_ egs
          have CFI:=h_ (fi_any gb 0 cb gs w3 (hsl3.below h3.below (Nat.le_refl _)) (by omega))
          clear hl3 hr3 hg3 hz3 h3 hin3 hne3 hlen3 hpin3 hv3 hsl3 hgb3 egs hrl4
          simp only[Pt]))
       refine CFI.out.mono ?_
       have HST:Hid (∀(w5:World) (ps:List Value),ps.length=27->(∀v∈ps,v.oneCell'=true)->∀(Q:Exit->Act->World->Prop) (ops:Array Oper) (rest:List Oper) (o:Oper) (a:Act),o.guard=none->o.op= .store 81 (.tmp 20) (.tmp 109)->a.eval (.tmp 20)= .pointer (some ⟨w5.heap.size,0,none⟩)->a.eval (.tmp 109)= .agg ps.toArray->∀old:Array Value,old.size=27->wpList Tryz.prog ops Q rest (a.put o.dst undef) (w5.alloc (.cells ps.toArray 81))->wpList Tryz.prog ops Q (o::rest) a (w5.alloc (.cells old 81))):=h_ (by
        intro w5 ps hpl hp1 Q ops rest o a hgd ho hx hy old hold hk
        exact Hk.wpList_store_fresh hgd 81 (.tmp 20) (.tmp 109) ho w5.heap.size _ hx hy old 81 rfl (by rw[HIP.out];simp[hpl]) (by rw[hold];simp[hpl]) (all_oneCell_toArray hp1) hk)
       clear CFI
       rintro e' w5 ⟨hb5,⟨hf,rfl⟩|⟨p,hf,rfl⟩⟩
       ·obtain⟨ps,eps⟩:∃ps,ps=bd prZ:=⟨_,rfl⟩
        rw[<-eps]
        have HPL:Hid (ps.length=27):=h_ (by rw[eps];rfl)
        have HP1:Hid (∀v∈ps,v.oneCell'=true):=h_ (by rw[eps];exact bX _)
        have h6:=((H3.out.grow hb5).grow ((Below.refl _ (w5)).alloc (Nat.le_refl _) (.cells ps.toArray 81))).skip (by rw[<-EGS.out];exact hf)
        have H6:=h_ h6
        have HRL:=h_ h6.rg.left_eq
        clear hb5 hf eps h6
        go_wp2_with (refine ai (.tmp 20) ?_;refine HST.out _ _ HPL.out HP1.out _ _ _ _ _ rfl rfl rfl rfl _ (by simp) ?_;simp only[Pt])
        go_roundw
        case rel=>exact⟨_,_,_,_,rfl,H6.out,HNUM.out⟩
        case measure=>have h1:=HME4.out;have h2:=HRL.out;omega
       ·obtain⟨ps,eps⟩:∃ps,ps=bd p:=⟨_,rfl⟩
        rw[<-eps]
        have hpl:ps.length=27:=by rw[eps];rfl
        have HPL:Hid (ps.length=27):=h_ hpl
        have HP1:Hid (∀v∈ps,v.oneCell'=true):=h_ (by rw[eps];exact bX _)
        have hpin:PrIn W p:=HPIN3.out p (firstF_mem hf)
        obtain⟨W6,e6⟩:∃W6,W6=w5.alloc (.cells ps.toArray 81):=⟨_,rfl⟩
        have hb6:Below w5.heap.size w5 W6:=by rw[e6];exact(Below.refl _ _).alloc (Nat.le_refl _) _
        have hr6:Row W6 w5.heap.size 81 ps:=by rw[e6];exact Row.new _ _ _
        have h6:=(H3.out.grow hb5).grow hb6
        have HM6:Hid (W6.rangeAt w5.heap.size 0 ps):=h_ (hr6.range (fun j v hj=>by rw[Nat.zero_add];exact hj))
        have HIQ:Hid ((Tryz.prog.info? 81).map (·.size)=some ps.length):=by show _=_;rw[hpl];exact HIP.out
        have hbW:Below W.heap.size W W6:=by
         have h1:=HB0.out.trans (HBX.out.mono HB0.out.size)
         exact h1.trans (h6.below.mono h1.size)
        have CA6:=h_ (am_any p W6 (hpin.at_.below hbW (Nat.le_refl _)) hpin.cl hpin.st)
        rw[<-eps]at CA6
        have E6:=h_ e6.symm
        have H6:=h_ h6
        have HF:=h_ hf
        have HPN:=h_ hpin.num
        clear hb5 hf eps hpl hpin e6 hb6 hr6 h6 hbW
        go_wp2_with (first
         |(refine ai (.tmp 20) ?_;refine HST.out _ _ HPL.out HP1.out _ _ _ _ _ rfl rfl rfl rfl _ (by simp) ?_;rw[E6.out];simp only[Pt])
         |(refine ae (.tmp 20) ?_;refine wpList_load_mid rfl 81 (.tmp 20) rfl w5.heap.size 0 rfl ps _ HM6.out Tryz.underlying81 rfl HIQ.out ?_))
        refine CA6.out.mono ?_
        rintro e' w7 ⟨h',rfl,hpo7,hb7⟩
        obtain⟨ams,eams⟩:∃ams,ams=bH (p,h'):=⟨_,rfl⟩
        rw[<-eams]
        obtain⟨W8,e8⟩:∃W8,W8=w7.alloc (.cells ams.toArray 62):=⟨_,rfl⟩
        have hb8:Below w7.heap.size w7 W8:=by rw[e8];exact(Below.refl _ _).alloc (Nat.le_refl _) _
        have hr8:Row W8 w7.heap.size 62 ams:=by rw[e8];exact Row.new _ _ _
        have h8:=(H6.out.grow hb7).grow hb8
        have hpo8:PatOwn (w1.heap.size+1) W8 p.x.patch h':=(hpo7.keep (fun g _ hg=>hb8.block _ hg)).mono H6.out.size
        have hcnt:am.length<=4000:=by
         have h1:=h8.perm.length_eq
         have h2:=congrArg List.length h8.eq
         rw[List.length_map]at h2
         have h3:=List.length_filterMap_le (fun e:Int×(Value×List Pr)=>bD Pr.known e.2.2) done4
         rw[List.length_append,List.length_append]at h1
         have:=NIN.out.1
         omega
        have hams:ams.length=22:=by rw[eams];rfl
        have hams1:∀u∈ams,u.oneCell'=true:=by rw[eams];exact dG _
        obtain⟨i1,hi1,hz1,hs1,hy1⟩:=bG info_am
        have HBS:Hid ((Instr.buildSlice 35 1 #[(0, .agg ams.toArray)]).run Tryz.prog w7= .ok (.slice (some ⟨w7.heap.size,0,none⟩) 1 1) W8):=h_ (by
         rw[e8]
         exact Apk.run_slice_one (P:=Tryz.prog) w7 35 62 i1 _ Tryz.underlying35 hi1 hz1 ams.toArray (by rw[List.size_toArray,hams,hs1]) (by rw[hs1];decide) (by rw[hs1];decide))
        have E8:=h_ e8.symm
        have HAP:Hid (∀(Q:Exit->Act->World->Prop) (ops:Array Oper) (rest:List Oper) (o:Oper) (a:Act),o.guard=none->o.op= .call {callee:= .builtin .append,args:= #[.tmp 112, .tmp 115],argTypes:= #[35,35]}->a.eval (.tmp 112)=v->a.eval (.tmp 115)= .slice (some ⟨w7.heap.size,0,none⟩) 1 1->(∀u w9,Hid (GL4 w1 w0.heap.size L5 (done4++ [e]) (pre++post) (am++ [(p,h')]) u w9)->wpList Tryz.prog ops Q rest (a.put o.dst u) w9)->wpList Tryz.prog ops Q (o::rest) a W8):=h_ (by
         intro Q ops rest o a hgd ho hx hy hk
         refine wpList_append_own_at W8 hgd (.tmp 112) (.tmp 115) 35 ho (w1.heap.size+1) 62 i1 _ 22 200 Tryz.underlying35 hi1 hz1 hs1 hy1 rfl (by decide) v am.length (am.flatMap bH) hx h8.out ⟨w7.heap.size,0,none⟩ 1 1 ams hy (by rw[hams]) (fun j u hj=>by rw[Blk.addr_add,Nat.zero_add];exact hr8.at hj) hams1 (by unfold maxLen;omega) (by omega) h8.size ?_
         intro u w9 ho9 hg9 _ _
         refine hk u w9 (h_ (h8.add (by rw[<-EGS.out];exact HF.out) hpo8 (by have:=HSX.out;omega) (by rw[List.flatMap_append,List.flatMap_singleton, <-eams];exact ho9) hg9)))
        clear eams he3 e8 hb8 hr8 h8 hpo8 hpo7 hb7 hcnt hams hams1 hi1 hz1 hs1 hy1 H6 H3
        go_wp2_with (first
         |(refine at_bs (.tmp 114) ?_;refine Row.moved rfl (Apl.exec_slice rfl HBS.out) ?_;simp only[Pt])
         |(refine at_app (.tmp 112) (.tmp 115) ?_;refine HAP.out _ _ _ _ _ rfl rfl rfl rfl ?_;intro u w9 H9;simp only[Pt]))
        have HRL:=h_ H9.out.rg.left_eq
        go_roundw
        case rel=>exact⟨_,_,_,_,rfl,H9.out,fun x hx=>by
         rcases List.mem_append.1 hx with h|h
         ·exact HNUM.out x h
         ·rw[List.mem_singleton]at h
          subst h
          exact HPN.out⟩
        case measure=>have h1:=HME4.out;have h2:=HRL.out;omega
    |cons q0 left0=>
     go_wp2_with (first
      |(
        refine ge (.tmp 71) ?_
        refine Mk.wpList_next rfl (.tmp 71) rfl rfl HRG2.out (fun h=>absurd h (by simp)) ?_
        intro pre e post w3 hl3 hr3 hg3 hz3 he3
        obtain⟨h3,hin3⟩:=HR2.out.next hl3 hr3 hg3
        obtain⟨hne3,hlen3,hpin3,hslot3⟩:=GIN.out.2 e hin3
        obtain⟨gb,cb,hv3,hsl3,hgb3⟩:=grp_open HGL.out hin3 hne3
        have hsok3:sOk e.1:=HGL.out.map.good e hin3
        have HME2:Hid (wr.rangeLeft b3 (w0.heap.size+1)=(pre++post).length+1):=h_ (by rw[hrl2,hl3];simp;omega)
        obtain⟨gs,egs⟩:∃gs,gs=e.2.2:=⟨_,rfl⟩
        rw[<-egs]at hv3 hsl3 hlen3 hpin3
        rw[hv3,show sV e.1= .agg #[.int .i64 e.1.1, .int .i64 e.1.2] from rfl]at he3
        rw[hv3,show sV e.1= .agg #[.int .i64 e.1.1, .int .i64 e.1.2] from rfl]
        have H3:=h_ h3
        have HSL3:=h_ hsl3
        have HGB3:=h_ hgb3
        have HLEN3:=h_ hlen3
        have HPIN3:=h_ hpin3
        have HSOK3:=h_ hsok3
        have HSLOT:=h_ hslot3
        have EGS:=h_ egs
        have HZ3:=h_ hz3
        obtain⟨W4,e4⟩:∃W4,W4=w3.alloc (.cells #[.int .i64 e.1.1, .int .i64 e.1.2] 84):=⟨_,rfl⟩
        have hr4:Row W4 w3.heap.size 84 [.int .i64 e.1.1, .int .i64 e.1.2]:=by rw[e4];exact Row.new _ _ _
        have hb4:Below w3.heap.size w3 W4:=by rw[e4];exact(Below.refl _ _).alloc (Nat.le_refl _) _
        have HR4:=h_ hr4
        have H4:=h_ (h3.grow hb4)
        have HSB:Hid (w0.heap.size+2<=w3.heap.size):=h_ h3.size
        have HST4:Hid (∀(Q:Exit->Act->World->Prop) (ops:Array Oper) (rest:List Oper) (o:Oper) (a:Act),o.guard=none->o.op= .store 84 (.tmp 13) (.tmp 75)->a.eval (.tmp 13)= .pointer (some ⟨w3.heap.size,0,none⟩)->a.eval (.tmp 75)= .agg #[.int .i64 e.1.1, .int .i64 e.1.2]->∀old:Array Value,old.size=2->wpList Tryz.prog ops Q rest (a.put o.dst undef) W4->wpList Tryz.prog ops Q (o::rest) a (w3.alloc (.cells old 84))):=h_ (by
         intro Q ops rest o a hgd ho hx hy old hold hk
         rw[e4]at hk
         exact Hk.wpList_store_fresh hgd 84 (.tmp 13) (.tmp 75) ho w3.heap.size _ hx hy old 84 rfl (by rw[HIS.out];rfl) hold (all_oneCell_toArray (cs:= [.int .i64 e.1.1, .int .i64 e.1.2]) (by intro v hv;simp at hv;rcases hv with rfl|rfl<;>rfl)) hk)
        clear hl3 hr3 hg3 hz3 h3 hin3 hne3 hlen3 hpin3 hslot3 hv3 hsl3 hgb3 hsok3 egs e4 hr4 hb4 hrl2
        simp only[Pt])
      |(refine ai (.tmp 13) ?_;refine HST4.out _ _ _ _ _ rfl rfl rfl rfl _ (by simp) ?_;simp only[Pt]))
     clear HST4 H3
     go_loopw [79] (fun v wr=> ∃k:Nat,v= .int .i64 (k:Int)/\k<=gs.length/\GL3 w0 parties l L b3 done2 e (pre++post) k wr/\Row wr w3.heap.size 84 [.int .i64 e.1.1, .int .i64 e.1.2]) (fun v _=>(gs.length:Int).toNat- (RowKit.intOf v).toNat)
     case atStart=>exact⟨0,rfl,Nat.zero_le _,H4.out,HR4.out⟩
     case round=>
      clear H4 HR4
      have hlg:=HLEN3.out
      obtain⟨k,rfl,hk,h3,hsb⟩:=hrel
      rcases Nat.lt_or_eq_of_le hk with hkl|hkl
      ·have hki:(k:Int)<(gs.length:Int):=by omega
       obtain⟨b',off',eA,hcell⟩:=(HSL3.out.below h3.below (Nat.le_refl _)).at_ (List.getElem?_eq_getElem hkl)
       cases eA
       obtain⟨q,eq⟩:∃q,q=gs[k]:=⟨_,rfl⟩
       have hqk:e.2.2[k]? =some q:=by rw[<-EGS.out,eq];exact List.getElem?_eq_getElem hkl
       have hqin:PrIn W q:=HPIN3.out q (by rw[eq];exact List.getElem_mem _)
       rw[<-eq]at hcell
       obtain⟨ps,eps⟩:∃ps,ps=bd q:=⟨_,rfl⟩
       have hpl:ps.length=27:=by rw[eps];rfl
       have hp1:∀v∈ps,v.oneCell'=true:=by rw[eps];exact bX q
       rw[<-eps]at hcell
       have HC:Hid (wr.rangeAt gb (k*27) ps):=h_ (fun j v hj=>by have:=hcell j v hj;rw[Nat.zero_add]at this;exact this)
       have HIQ:Hid ((Tryz.prog.info? 81).map (·.size)=some ps.length):=by show _=_;rw[hpl];exact HIP.out
       obtain⟨W5,e5⟩:∃W5,W5=wr.alloc (.cells ps.toArray 81):=⟨_,rfl⟩
       have hb5:Below wr.heap.size wr W5:=by rw[e5];exact(Below.refl _ _).alloc (Nat.le_refl _) _
       have hr5:Row W5 wr.heap.size 81 ps:=by rw[e5];exact Row.new _ _ _
       have hs5:=hsb.below hb5 hsb.lt
       have h5:=h3.grow hb5
       have HST5:Hid (∀(Q:Exit->Act->World->Prop) (ops:Array Oper) (rest:List Oper) (o:Oper) (a:Act),o.guard=none->o.op= .store 81 (.tmp 16) (.tmp 82)->a.eval (.tmp 16)= .pointer (some ⟨wr.heap.size,0,none⟩)->a.eval (.tmp 82)= .agg ps.toArray->∀old:Array Value,old.size=27->wpList Tryz.prog ops Q rest (a.put o.dst undef) W5->wpList Tryz.prog ops Q (o::rest) a (wr.alloc (.cells old 81))):=h_ (by
        intro Q ops rest o a hgd ho hx hy old hold hk
        rw[e5]at hk
        exact Hk.wpList_store_fresh hgd 81 (.tmp 16) (.tmp 82) ho wr.heap.size _ hx hy old 81 rfl (by rw[HIP.out];simp[hpl]) (by rw[hold];simp[hpl]) (all_oneCell_toArray hp1) hk)
       obtain⟨pb,epb⟩:∃pb,pb=wr.heap.size:=⟨_,rfl⟩
       have HLT5:Hid (pb<W5.heap.size/\w3.heap.size<W5.heap.size/\w0.heap.size<=W5.heap.size):=h_ ⟨by rw[epb];exact hr5.lt,hs5.lt,h5.below.size⟩
       rw[<-epb]at hr5
       obtain⟨L5,hg5r,hL5r⟩:=h3.num
       have HG5R:=h_ hg5r
       have HL5R:=h_ hL5r
       have HB5:=h_ hb5
       clear hg5r hL5r
       have H5:=h_ h5
       have HR5:=h_ hr5
       have HS5:=h_ hs5
       have HQK:=h_ hqk
       have HQIN:=h_ hqin
       have EPS:=h_ eps
       have HPL:=h_ hpl
       have HP1:=h_ hp1
       have EPB:=h_ epb
       clear hcell eq eps hpl hp1 e5 hb5 hr5 hs5 h5 h3 hsb hqk hqin epb hk
       go_wp2_with (first
        |(refine ae (.tmp 81) ?_;refine wpList_load_mid rfl 81 (.tmp 81) rfl gb (k*27) rfl ps _ HC.out Tryz.underlying81 rfl HIQ.out ?_)
        |(refine ai (.tmp 16) ?_;refine HST5.out _ _ _ _ _ rfl rfl rfl rfl _ (by simp) ?_;simp only[Pt]))
       rw[<-EPB.out]
       clear HC HST5
       obtain⟨A2,c2,zs,hzs,hlk,hslw,hzl⟩:=LKW.out e.1
       obtain⟨V,eV⟩:∃V,V=cm q gs zs:=⟨_,rfl⟩
       have HZS:=h_ hzs
       have EV:=h_ eV
       have CV:Hid (∀w',Below W5.heap.size W5 w'->Calls Tryz.prog 32 #[.agg ps.toArray, .slice (some ⟨gb,0,none⟩) gs.length cb, .slice A2 zs.length c2] w' fun e w''=>e= .returned (.bool V)/\Below w'.heap.size w' w''):=h_ fun w' hb=>by
        have hb0':Below w0.heap.size w0 w':=H5.out.below.trans (hb.mono H5.out.below.size)
        have:=va_any q gb 0 cb gs A2 c2 zs w' (HSL3.out.below hb0' (Nat.le_refl _)) (Nat.lt_of_lt_of_le HGB3.out hb0'.size) (hslw.below hb0' (Nat.le_refl _)) (by have:=HLEN3.out;omega) hzl
        rwa[<-EPS.out, <-eV]at this
       have CF:Hid (∀w',Below W5.heap.size W5 w'->w'.rangeAt pb 0 ps/\w'.rangeAt w3.heap.size 0 [.int .i64 e.1.1, .int .i64 e.1.2]/\Mk.MapIs w' sV sOk Prod.fst bw Lw):=h_ fun w' hb=>by
        have hb0':Below w0.heap.size w0 w':=H5.out.below.trans (hb.mono H5.out.below.size)
        exact⟨(HR5.out.below hb HR5.out.lt).range (fun j v hj=>by rw[Nat.zero_add];exact hj),(HS5.out.below hb HS5.out.lt).range (fun j v hj=>by rw[Nat.zero_add];exact hj),HGW.out.map.keep (hb0'.block _ HBW.out.2.1)⟩
       have HLK:=h_ hlk
       clear hzs eV hlk hslw hzl
       refine Free.wp_region_free 6 [(5, .det (.bool V))] (fun w2=>Below W5.heap.size W5 w2) (by kernel_rfl) (by kernel_rfl) (Free.mono_det (fun j mk r hf=>by simp only[Free.find]at hf;repeat' (first|cases hf|split at hf))) (Below.refl _ _).drew (fun _ _ h g=>h.trans (Below.mono g h.size)) ?_
       simp only[List.take_succ_cons,List.take_zero]
       iterate 6 (first|(apply Free.chain_still (by first|exact Free.wanted_of rfl rfl rfl|rfl) rfl;(intro w' hB hA;exact Hk.exec_mid 81 (.tmp 16) rfl pb 0 rfl ps _ (CF.out _ hB).1 Tryz.underlying81 rfl HIQ.out);simp only[Pt])|(apply Free.chain_still (by first|exact Free.wanted_of rfl rfl rfl|rfl) rfl;(intro w' hB hA;exact Hk.exec_mid 84 (.tmp 13) rfl w3.heap.size 0 rfl _ _ (CF.out _ hB).2.1 Tryz.underlying84 rfl HIS.out);simp only[Pt])|(apply Free.chain_still (by first|exact Free.wanted_of rfl rfl rfl|rfl) rfl;(intro w' hB hA;exact exec_look rfl key_slot (CF.out _ hB).2.2 Tryz.underlying86 (Tryz.zeroValue22 _) HSOK3.out rfl rfl HLK.out);simp only[Pt])|(apply Free.chain_det (by first|exact Free.wanted_of rfl rfl rfl|rfl) rfl;(intro w' hB hA;refine Free.opRun_call (f:=32) (args:= #[.agg ps.toArray, .slice (some ⟨gb,0,none⟩) gs.length cb, .slice A2 zs.length c2]) (by clear hB hA;go_simp<;>rfl) ?_;refine(CV.out w' hB).mono ?_;rintro e w3 ⟨rfl,hb3⟩;exact⟨_,rfl,hb3,rfl⟩);simp only[Pt])|(apply Free.chain_still (by first|exact Free.wanted_of rfl rfl rfl|rfl) rfl;(intro w' hB hA;obtain qB:=hB;clear hA;go_light;go_simp<;>rfl);(try simp only[Pt])))
       apply Free.chain_nil
       intro w6 hw6 _ _
       simp only[List.drop_succ_cons,List.drop_zero]
       have h6:=H5.out.grow hw6
       have hr6:=HR5.out.below hw6 HR5.out.lt
       have hs6:=HS5.out.below hw6 HS5.out.lt
       have HLT6:Hid (pb<w6.heap.size/\w3.heap.size<w6.heap.size/\w0.heap.size+2<=w6.heap.size):=h_ ⟨hr6.lt,hs6.lt,h6.size⟩
       have H6:=h_ h6
       have HW6:=h_ hw6
       have HR6:=h_ hr6
       have HS6:=h_ hs6
       clear h6 hr6 hs6 hw6 CV CF H5 HR5 HS5 HLT5
       cases V with
       |false=>
        go_wp2_with fail
        go_roundw
        case rel=>exact⟨k+1,rfl,hkl,H6.out.skip HQK.out (by rw[<-EGS.out, <-HZS.out];exact EV.out.symm),HS6.out⟩
        case measure=>simp[RowKit.intOf];omega
       |true=>
        have hbr:Below wr.heap.size wr w6:=HB5.out.trans (HW6.out.mono HB5.out.size)
        have hg5:=HG5R.out.keep (hbr.block _ HG5R.out.map.lt) (fun g _ hg=>hbr.block _ hg)
        have hL5:=HL5R.out
        have hnum5:=H6.out.total GIN.out.1 hL5 (by rw[<-EGS.out];exact hkl)
        have hslot:q.x.number=e.1.2:=congrArg Prod.snd (HSLOT.out q (List.mem_of_getElem? HQK.out))
        have HNUM:Hid (bn e.1.2):=h_ HSOK3.out.2
        have hbd:Below w6.heap.size w6 w6.drew:=(Below.refl _ _).drew
        have zd:w6.drew.heap.size=w6.heap.size:=rfl
        obtain⟨W7,e7⟩:∃W7,W7=w6.drew.alloc (.cells ps.toArray 81):=⟨_,rfl⟩
        have hb7:Below w6.heap.size w6 W7:=by rw[e7];exact hbd.alloc (Nat.le_refl _) _
        have hr7:Row W7 w6.heap.size 81 ps:=by rw[e7, <-zd];exact Row.new _ _ _
        have z7:W7.heap.size=w6.heap.size+1:=by rw[e7];simp
        have hG7:Groups W7 nV bn bd (w0.heap.size+2) 81 27 w0.heap.size L5:=hg5.keep (hb7.block _ hg5.map.lt) (fun g _ hg=>hb7.block _ hg)
        obtain⟨v5,zs5,hv5,hz5,hrow5,hat5⟩:=hG7.at e.1.2
        have hzl5:zs5.length+1<=maxLen/\(zs5.length+1)*256<=140737488355328:=by
         rcases hat5 with⟨h1,_⟩|h1
         ·injection h1 with _ h1;rw[h1];exact⟨by unfold maxLen;simp,by decide⟩
         ·exact hnum5 _ (Mk.get_mem h1)
        have hs7:=HS6.out.below hb7 HS6.out.lt
        have hp7:=HR6.out.below hb7 HR6.out.lt
        have hlt6:=HLT6.out
        have hsbb:=HSB.out
        obtain⟨v8,W8,hrun8,hown8,hg8,_,hat8⟩:=run_append_own_at (P:=Tryz.prog) W7 (w0.heap.size+2) 85 85 81 i0 _ 27 256 Tryz.underlying85 HI0.out HZ0.out HS0.out HY0.out rfl (by decide) v5 zs5.length (zs5.flatMap bd) hrow5 ⟨w6.heap.size,0,none⟩ 1 1 ps (by rw[HPL.out]) (fun j u hj=>by rw[Blk.addr_add,Nat.zero_add];exact hr7.at hj) HP1.out hzl5.1 hzl5.2 (by omega)
        have hno:∀p∈L5,∀g,p.2.1.ownBlock=some g->g≠pb:=fun p hp g hg hgp=>by
         have h1:=(owns_lt (HG5R.out.row p hp) hg).2
         rw[hgp,EPB.out]at h1
         exact absurd h1 (Nat.lt_irrefl _)
        have hf8:∀g,g<W7.heap.size->(∀p∈L5,p.2.1.ownBlock≠some g)->W8.heap[g]? =W7.heap[g]? :=fun g hgl hgn=>hg8.block g hgl (fun e=>by
         rcases hat5 with⟨h1,_⟩|h1
         ·injection h1 with h1 _;rw[h1]at e;cases e
         ·exact hgn _ (Mk.get_mem h1) e.symm)
        have hp8:Row W8 pb 81 ps:=hp7.keep (hf8 pb hp7.lt (fun p hp hg=>hno p hp pb hg rfl))
        have hs8:Row W8 w3.heap.size 84 [.int .i64 e.1.1, .int .i64 e.1.2]:=hs7.keep (hf8 _ hs7.lt (fun p hp=>dL (hG7.row p hp) hs7 (by decide)))
        have hm8:Mk.MapIs W8 nV bn Prod.fst w0.heap.size L5:=hG7.map.keep (hg8.block _ hG7.map.lt (fun e=>by have:=(owns_lt hrow5 e.symm).1;omega))
        let SB:Nat->World->Prop:=fun s w'=>match s with|0=>w'=w6.drew|1=>w'=W7|_=>w'=W8
        have CG:Hid (∀s w',SB s w'->w'.rangeAt pb 0 ps/\w'.cell? ⟨w3.heap.size,1,none⟩=some (.int .i64 e.1.2)/\Mk.MapIs w' nV bn Prod.fst w0.heap.size L5):=h_ fun s w' hb=>by
         have hA:Row w' pb 81 ps/\Row w' w3.heap.size 84 [.int .i64 e.1.1, .int .i64 e.1.2]/\Mk.MapIs w' nV bn Prod.fst w0.heap.size L5:=by
          rcases s with _|_|s
          ·have hb:w'=w6.drew:=hb
           subst hb
           exact⟨HR6.out.below hbd HR6.out.lt,HS6.out.below hbd HS6.out.lt,hg5.map.keep (hbd.block _ hg5.map.lt)⟩
          ·have hb:w'=W7:=hb
           subst hb
           exact⟨hp7,hs7,hG7.map⟩
          ·have hb:w'=W8:=hb
           subst hb
           exact⟨hp8,hs8,hm8⟩
         exact⟨hA.1.range (fun j v hj=>by rw[Nat.zero_add];exact hj),hA.2.1.at rfl,hA.2.2⟩
        have HDONE:Hid (∀w9,Mk.MapIs w9 nV bn Prod.fst w0.heap.size (Mk.put L5 e.1.2 (v8,zs5++ [q]))->W8.grownBy w9 (some w0.heap.size)->GL3 w0 parties l L b3 done2 e (pre++post) (k+1) w9/\Row w9 w3.heap.size 84 [.int .i64 e.1.1, .int .i64 e.1.2]):=h_ fun w9 hm9 hg9=>by
         obtain⟨k1,k2,k3⟩:=put_done hG7 (by omega) (by omega) e.1.2 q hv5 hz5 (by rw[<-EPS.out];exact hown8) hg8 hat8 hm9 hg9
         have h7:=H6.out.grow hb7
         refine⟨h7.add HQK.out (by rw[<-EGS.out, <-HZS.out];exact EV.out.symm) hL5 (by rw[hslot,hz5];exact k1) k2 (by have:=HBW.out;omega),hs7.keep (k3 _ hs7.lt (by omega) (fun p hp=>dL (hG7.row p hp) hs7 (by decide)))⟩
        have HV5:=h_ hv5
        have HBS:Hid ((Instr.buildSlice 85 1 #[(0, .agg ps.toArray)]).run Tryz.prog w6.drew= .ok (.slice (some ⟨w6.heap.size,0,none⟩) 1 1) W7):=h_ (by
         rw[e7]
         exact Apk.run_slice_one (P:=Tryz.prog) w6.drew 85 81 i0 _ Tryz.underlying85 HI0.out HZ0.out ps.toArray (by rw[List.size_toArray,HPL.out,HS0.out]) (by rw[HS0.out];decide) (by rw[HS0.out];decide))
        have HAP:=h_ hrun8
        have HM8:=h_ hm8
        clear hbr hbd zd e7 hb7 hr7 z7 hG7 hz5 hrow5 hat5 hzl5 hs7 hp7 hlt6 hsbb hrun8 hown8 hg8 hat8 hno hf8 hp8 hs8 hm8 hv5 hg5 hL5 hnum5 hslot
        go_wp2_with fail
        refine Fre3.wp_region_staged 10 [8,9] SB (by kernel_rfl) (by kernel_rfl) (by kernel_rfl) rfl ?_
        simp only[List.take_succ_cons,List.take_zero]
        iterate 8 (first|(apply Fre3.chain_still (by first|exact Free.wanted_of rfl rfl rfl|rfl) rfl;(intro s w' hB;exact exec_look rfl eC (CG.out s w' hB).2.2 Tryz.underlying88 (Tryz.zeroValue85 _) HNUM.out rfl rfl HV5.out);simp only[Pt])|(apply Fre3.chain_still (by first|exact Free.wanted_of rfl rfl rfl|rfl) rfl;(intro s w' hB;exact Hk.exec_mid 81 (.tmp 16) rfl pb 0 rfl ps _ (CG.out s w' hB).1 Tryz.underlying81 rfl HIQ.out);simp only[Pt])|(apply Fre3.chain_still (by first|exact Free.wanted_of rfl rfl rfl|rfl) rfl;(intro s w' hB;have hc:=(CG.out s w' hB).2.1;clear hB;go_light;go_simp<;>rfl);(try simp only[Pt])))
        apply Fre3.chain_call (x:= .slice (some ⟨w6.heap.size,0,none⟩) 1 1) (by first|exact Free.wanted_of rfl rfl rfl|rfl) rfl
        ·intro w' hB
         have hB:w'=w6.drew:=hB
         subst hB
         exact Free.opRun_of (Apl.exec_slice rfl HBS.out) ⟨rfl,rfl⟩
        simp only[Pt]
        apply Fre3.chain_call (x:=v8) (by first|exact Free.wanted_of rfl rfl rfl|rfl) rfl
        ·intro w' hB
         have hB:w'=W7:=hB
         subst hB
         exact Free.opRun_of (Apl.exec_append (s:= .tmp 95) (x:= .tmp 97) rfl rfl rfl HAP.out) ⟨rfl,rfl⟩
        simp only[Pt]
        apply Fre3.chain_nil
        intro w8 hB
        have hB:w8=W8:=hB
        subst hB
        simp only[List.drop_succ_cons,List.drop_zero]
        refine Mk.wpList_store (β:=Value×List Pr) rfl (.tmp 89) (.tmp 91) (.tmp 98) rfl eC HM8.out Tryz.underlying88 e.1.2 HNUM.out (v8,zs5++ [q]) rfl rfl rfl ?_
        intro w9 hm9 hg9 _
        obtain⟨h8,hs8⟩:=HDONE.out w9 hm9 hg9
        have H8:=h_ h8
        have HS8:=h_ hs8
        clear hm9 hg9 h8 hs8 H6 HR6 HS6 HLT6 CG HDONE
        simp only[Pt]
        go_wp2_with fail
        go_roundw
        case rel=>exact⟨k+1,rfl,hkl,H8.out,HS8.out⟩
        case measure=>simp[RowKit.intOf];omega
      ·have hki: ¬(k:Int)<(gs.length:Int):=by omega
       have hdone:=h3.fin (by rw[<-EGS.out];omega)
       have HDN:=h_ hdone
       have HRL:=h_ hdone.rg.left_eq
       clear hdone h3 hsb
       go_wp2_with fail
       go_roundw
       case rel=>exact⟨_,_,HDN.out⟩
       case measure=>have h1:=HME2.out;have h2:=HRL.out;omega
  |cons p0 left0=>
   go_wp2_with (first
    |(
      refine ge (.tmp 41) ?_
      refine Mk.wpList_next rfl (.tmp 41) rfl rfl HRG.out (fun h=>absurd h (by simp)) ?_
      intro pre p post w5 hl5 hr5 hg5 hz5 he5
      obtain⟨hm5,hin5⟩:=HRA.out.next hl5 hr5 hg5 hz5
      have HM5:=h_ hm5
      have HIN:=h_ (PIN.out p hin5)
      have HME:Hid (wr.rangeLeft W.heap.size (b3+1)=(pre++post).length+1):=h_ (by rw[hrl,hl5];simp;omega)
      obtain⟨q,eq⟩:∃q,q=p.2:=⟨_,rfl⟩
      obtain⟨ps,eps⟩:∃ps,ps=bd q:=⟨_,rfl⟩
      have hpv:pV p.2= .agg ps.toArray:=by rw[<-eq,eps];rfl
      rw[hpv]at he5⊢
      rw[<-eq]at HIN
      have hpl:ps.length=27:=by rw[eps];rfl
      have hp1:∀v∈ps,v.oneCell'=true:=by rw[eps];exact bX q
      obtain⟨W6,e6⟩:∃W6,W6=w5.alloc (.cells ps.toArray 81):=⟨_,rfl⟩
      have hb6:Below w5.heap.size w5 W6:=by rw[e6];exact(Below.refl _ _).alloc (Nat.le_refl _) _
      have hr6:Row W6 w5.heap.size 81 ps:=by rw[e6];exact Row.new _ _ _
      have hm6:=hm5.grow hb6
      have HM6:Hid (W6.rangeAt w5.heap.size 0 ps):=h_ (hr6.range (fun j v hj=>by rw[Nat.zero_add];exact hj))
      have HIQ:Hid ((Tryz.prog.info? 81).map (·.size)=some ps.length):=by show _=_;rw[hpl];exact HIP.out
      have HST:Hid (∀(Q:Exit->Act->World->Prop) (ops:Array Oper) (rest:List Oper) (o:Oper) (a:Act),o.guard=none->o.op= .store 81 (.tmp 9) (.tmp 45)->a.eval (.tmp 9)= .pointer (some ⟨w5.heap.size,0,none⟩)->a.eval (.tmp 45)= .agg ps.toArray->∀old:Array Value,old.size=27->wpList Tryz.prog ops Q rest (a.put o.dst undef) W6->wpList Tryz.prog ops Q (o::rest) a (w5.alloc (.cells old 81))):=h_ (by
       intro Q ops rest o a hgd ho hx hy old hold hk
       rw[e6]at hk
       exact Hk.wpList_store_fresh hgd 81 (.tmp 9) (.tmp 45) ho w5.heap.size _ hx hy old 81 rfl (by rw[HIP.out];simp[hpl]) (by rw[hold];simp[hpl]) (all_oneCell_toArray hp1) hk)
      have CK:=h_ (kn_any q parties b2 (dH parties l) W6 (by omega) (by omega) hm6.acc HIN.out.ok)
      rw[<-eps]at CK
      have HMM6:=h_ hm6
      have HR6:=h_ hr6
      have HB56:=h_ hb6
      have EPS:=h_ eps
      have EQ:=h_ eq
      clear hl5 hr5 hg5 hz5 hm5 hin5 eq eps hpv hpl hp1 e6 hb6 hr6 hm6 hrl
      simp only[Pt])
    |(refine ai (.tmp 9) ?_;refine HST.out _ _ _ _ _ rfl rfl rfl rfl _ (by simp) ?_;simp only[Pt])
    |(refine ae (.tmp 9) ?_;refine wpList_load_mid rfl 81 (.tmp 9) rfl w5.heap.size 0 rfl ps _ HM6.out Tryz.underlying81 rfl HIQ.out ?_))
   refine CK.out.mono ?_
   rintro e w7 ⟨rfl,hb7⟩
   obtain⟨K,eK⟩:∃K,K=cJ parties (dH parties l) q:=⟨_,rfl⟩
   rw[<-eK]
   have hr7:=HR6.out.below hb7 HR6.out.lt
   have hm7:=HMM6.out.grow hb7
   have d26:=hr7.at (show ps[26]? =some (.int .i64 q.known) by rw[EPS.out];rfl)
   have f26:w7.frozen? ⟨w5.heap.size,26,none⟩=false:=Blk.frozen hr7 26
   have hs7:w5.heap.size<w7.heap.size:=hr7.lt
   obtain⟨W8,e8⟩:∃W8,W8=w7.setCell ⟨w5.heap.size,26,none⟩ (.int .i64 K):=⟨_,rfl⟩
   have hb56:Below w5.heap.size w5 w7:=by
    have h1:=HM5.out
    have h2:=HMM6.out
    exact HB56.out.trans (hb7.mono HB56.out.size)
   have hb8:Below w5.heap.size w5 W8:=by rw[e8];exact hb56.trans (aq (a:=⟨w5.heap.size,26,none⟩) (Nat.le_refl _) _)
   have z8:W8.heap.size=w7.heap.size:=by rw[e8];simp
   obtain⟨ps2,eps2⟩:∃ps2,ps2=bd {q with known:=K}:=⟨_,rfl⟩
   have hr8:Row W8 w5.heap.size 81 ps2:=by
    have h:=Blk.set (show Blk w7 _ _ _ from hr7) 26 (.int .i64 K)
    rw[<-e8,EPS.out,encPr_known, <-eps2]at h
    exact h
   have hm8:=HM5.out.grow hb8
   have k1:=hr8.at (show ps2[1]? =some (.int .i64 q.x.party) by rw[eps2];rfl)
   have k2:=hr8.at (show ps2[2]? =some (.int .i64 q.x.number) by rw[eps2];rfl)
   have E8:Hid (w7.setCell ⟨w5.heap.size,26,none⟩ (.int .i64 K)=W8):=h_ e8.symm
   obtain⟨W9,e9⟩:∃W9,W9=W8.alloc (.cells [.int .i64 q.x.party, .int .i64 q.x.number].toArray 84):=⟨_,rfl⟩
   have z9:W9.heap.size=W8.heap.size+1:=by rw[e9];simp
   have hr9:Row W9 W8.heap.size 84 [.int .i64 q.x.party, .int .i64 q.x.number]:=by rw[e9];exact Row.new _ _ _
   have hb9:Below W8.heap.size W8 W9:=by rw[e9];exact(Below.refl _ _).alloc (Nat.le_refl _) _
   have hp9:=hr8.below hb9 hr8.lt
   have hm9:=hm8.grow hb9
   have HMS9:Hid (W9.rangeAt W8.heap.size 0 [.int .i64 q.x.party, .int .i64 q.x.number]):=h_ (hr9.range (fun j v hj=>by rw[Nat.zero_add];exact hj))
   have HMP9:Hid (W9.rangeAt w5.heap.size 0 ps2):=h_ (hp9.range (fun j v hj=>by rw[Nat.zero_add];exact hj))
   have HIQ2:Hid ((Tryz.prog.info? 81).map (·.size)=some ps2.length):=by show _=_;rw[eps2];exact HIP.out
   have HST9:Hid (∀(Q:Exit->Act->World->Prop) (ops:Array Oper) (rest:List Oper) (o:Oper) (a:Act),o.guard=none->o.op= .store 84 (.tmp 10) (.tmp 57)->a.eval (.tmp 10)= .pointer (some ⟨W8.heap.size,0,none⟩)->a.eval (.tmp 57)= .agg #[.int .i64 q.x.party, .int .i64 q.x.number]->∀old:Array Value,old.size=2->wpList Tryz.prog ops Q rest (a.put o.dst undef) W9->wpList Tryz.prog ops Q (o::rest) a (W8.alloc (.cells old 84))):=h_ (by
    intro Q ops rest o a hgd ho hx hy old hold hk
    rw[e9]at hk
    exact Hk.wpList_store_fresh hgd 84 (.tmp 10) (.tmp 57) ho W8.heap.size _ hx hy old 84 rfl (by rw[HIS.out];rfl) hold (all_oneCell_toArray (cs:= [.int .i64 q.x.party, .int .i64 q.x.number]) (by intro v hv;simp at hv;rcases hv with rfl|rfl<;>rfl)) hk)
   have HM9:=h_ hm9
   have EPS2:=h_ eps2
   have EK:=h_ eK
   obtain⟨W10,e10⟩:∃W10,W10=W9.alloc (.cells ps2.toArray 81):=⟨_,rfl⟩
   have z10:W10.heap.size=W9.heap.size+1:=by rw[e10];simp
   have hr10:Row W10 W9.heap.size 81 ps2:=by rw[e10];exact Row.new _ _ _
   have hb10:Below W9.heap.size W9 W10:=by rw[e10];exact(Below.refl _ _).alloc (Nat.le_refl _) _
   have hm10:=hm9.grow hb10
   obtain⟨L,hg10,hL⟩:=hm10.grp
   have hlen:=hm10.len hL h3n
   have hsz:=hm10.size
   have hlt:=hm10.lt
   obtain⟨q2,eq2⟩:∃q2:Pr,q2= {q with known:=K}:=⟨_,rfl⟩
   have hsl:q2.slot=q.slot:=by rw[eq2];rfl
   have hq2:bS parties (dH parties l) p.2=q2:=by rw[eq2,eK, <-EQ.out];rfl
   have hc10:∀(j:Nat) u,(bd q2)[j]? =some u->W10.cell? ((⟨W9.heap.size,0,none⟩:Addr).add j)=some u:=fun j u hj=>by
    rw[eq2, <-eps2]at hj
    rw[Blk.addr_add,Nat.zero_add]
    exact hr10.at hj
   have hsok:sOk q.slot:=⟨HIN.out.ok.x.nums.2.1,HIN.out.ok.x.nums.2.2.1⟩
   have hbig:b3+2<=W9.heap.size:=hm9.size
   have HGRP:Hid (∀(Q:Exit->Act->World->Prop) (ops:Array Oper) (rest:List Oper) (o1 o2 o3 o4 o5:Oper) (a:Act),o1.guard=none->o1.op= .mapEntry 79 (.tmp 58) (.tmp 59)->o1.dst=some 63->o2.guard=none->o2.op= .extract (.tmp 63) 0->o2.dst=some 60->o3.guard=none->o3.op= .call {callee:= .builtin .append,args:= #[.tmp 60, .tmp 62],argTypes:= #[85,85]}->o3.dst=some 64->o4.guard=none->o4.op= .extract (.tmp 63) 1->o4.dst=some 65->o5.guard=none->o5.op= .entryStore 79 (.tmp 58) (.tmp 65) (.tmp 64)->o5.dst=none->
     a.eval (.tmp 58)= .map (some b3)->a.eval (.tmp 59)= .agg #[.int .i64 q.x.party, .int .i64 q.x.number]->(∀u1,(a.put (some 63) u1).eval (.tmp 63)=u1)->(∀u1 u2,((a.put (some 63) u1).put (some 60) u2).eval (.tmp 60)=u2/\((a.put (some 63) u1).put (some 60) u2).eval (.tmp 62)= .slice (some ⟨W9.heap.size,0,none⟩) 1 1)->
     (∀u1 u2 u3,(((a.put (some 63) u1).put (some 60) u2).put (some 64) u3).eval (.tmp 63)=u1)->(∀u1 u2 u3 u4,((((a.put (some 63) u1).put (some 60) u2).put (some 64) u3).put (some 65) u4).eval (.tmp 58)= .map (some b3)/\((((a.put (some 63) u1).put (some 60) u2).put (some 64) u3).put (some 65) u4).eval (.tmp 65)=u4/\((((a.put (some 63) u1).put (some 60) u2).put (some 64) u3).put (some 65) u4).eval (.tmp 64)=u3)->
     (∀u1 u2 u3 u4 w',Hid (L1 W parties l b2 b3 (done++ [p]) (pre++post) w')->wpList Tryz.prog ops Q rest (((((a.put (some 63) u1).put (some 60) u2).put (some 64) u3).put (some 65) u4).put none undef) w')->wpList Tryz.prog ops Q (o1::o2::o3::o4::o5::rest) a W10):=h_ (by
    intro Q ops rest o1 o2 o3 o4 o5 a x1 x2 x3 x4 x5 x6 x7 x8 x9 x10 x11 x12 x13 x14 x15 x16 x17 x18 x19 x20 x21 hK
    refine fx key_slot Tryz.underlying79 Tryz.underlying85 i0 _ 256 HI0.out HZ0.out HS0.out HY0.out rfl (by decide) (Tryz.zeroValue85 _) hg10 (by omega) q.slot hsok q2 rfl (by rw[eq2];exact bX _) (.tmp 58) (.tmp 59) (.tmp 62) 63 60 64 65 ⟨W9.heap.size,0,none⟩ 1 hc10 (by show W9.heap.size≠b3;omega) hlen (by decide) (by omega) x1 x2 x3 x4 x5 x6 x7 x8 x9 x10 x11 x12 x13 x14 x15 x16 x17 x18 x19 x20 x21 fun u1 u2 u3 u4 w11 hg11 ho11=>hK u1 u2 u3 u4 w11 (h_ ?_)
    refine⟨hm10.rg.keep (ho11.block _ (by omega) (by omega)) (ho11.block _ (by omega) (by omega)),hm10.perm,hm10.acc.keep (ho11.block _ (by omega) (by omega)),⟨_,hg11, ?_⟩,hm10.below.trans (ho11.below (by omega) (by omega)),Nat.le_trans hsz ho11.size,hlt⟩
    rw[fF,List.map_append,List.map_cons,List.map_nil,bN, <-hL,hq2]
    unfold grp
    rw[dE,hsl]
    rfl)
   have hpl2:ps2.length=27:=by rw[eps2];rfl
   have HBS:Hid ((Instr.buildSlice 85 1 #[(0, .agg ps2.toArray)]).run Tryz.prog W9= .ok (.slice (some ⟨W9.heap.size,0,none⟩) 1 1) W10):=h_ (by
    rw[e10]
    exact Apk.run_slice_one (P:=Tryz.prog) W9 85 81 i0 _ Tryz.underlying85 HI0.out HZ0.out ps2.toArray (by rw[List.size_toArray,hpl2,HS0.out]) (by rw[HS0.out];decide) (by rw[HS0.out];decide))
   clear hpl2
   have HZM:Hid ((pre++post).length<wr.rangeLeft W.heap.size (b3+1)):=h_ (by rw[HME.out];omega)
   clear e10 z10 hr10 hb10 hm10 hg10 hL hlen hsz hlt eq2 hsl hq2 hc10 hsok hbig
   have Z8:=h_ z8
   have Z9:=h_ z9
   clear z8 z9
   clear hb7 hr7 hm7 hs7 e8 hb56 hb8 hr8 hm8 e9 hr9 hb9 hp9 hm9 eps2 eK CK HR6 HMM6
   go_wp2_with (first
    |(refine ae (.tmp 52) ?_;rw[E8.out])
    |(refine ai (.tmp 10) ?_;refine HST9.out _ _ _ _ _ rfl rfl rfl rfl _ (by simp) ?_;simp only[Pt])
    |(refine ae (.tmp 10) ?_;refine wpList_load_mid rfl 84 (.tmp 10) rfl W8.heap.size 0 rfl _ _ HMS9.out Tryz.underlying84 rfl HIS.out ?_)
    |(refine ae (.tmp 9) ?_;refine wpList_load_mid rfl 81 (.tmp 9) rfl w5.heap.size 0 rfl ps2 _ HMP9.out Tryz.underlying81 rfl HIQ2.out ?_)
    |(refine at_bs _ ?_;refine Row.moved rfl (Apl.exec_slice rfl HBS.out) ?_;simp only[Pt])
    |(refine at_entry ?_;refine HGRP.out _ _ _ _ _ _ _ _ _ rfl rfl rfl rfl rfl rfl rfl rfl rfl rfl rfl rfl rfl rfl rfl rfl rfl (fun _=>rfl) (fun _ _=>by simp only[Pt];exact⟨rfl,rfl⟩) (fun _ _ _=>by simp only[Pt];rfl) (fun _ _ _ _=>by simp only[Pt];exact⟨rfl,rfl,rfl⟩) ?_;intro u1 u2 u3 u4 w11 HD;simp only[Pt]))
   have HRL:=h_ HD.out.rg.left_eq
   go_roundw
   case rel=>exact⟨_,_,HD.out⟩
   case measure=>have h:=HRL.out;have h2:=HZM.out;omega
end Go.Proofs.YtekfoaenomgjgaaGreatDoor

namespace Go.Proofs.YtekfoaenomgjgaaGreatDoor
open Go.RowKit Go.W32 Go.Blk Go.Cs Go.Lib Go.Opn Go.Mg

def encN(j:Nat):List Value:= [.int .i64 (j:Int)]
def encP(p:Nat×Nat):List Value:= [.int .i64 (p.1:Int), .int .i64 (p.2:Int)]
def sumsV(l:List Rl)(k:Nat):List Value:=(List.range l.length).map fun i=> .string (if i<k then fU DG l i else ByteArray.empty)
theorem sumsV_len(l:List Rl)(k:Nat):(sumsV l k).length=l.length:=by simp[sumsV]
theorem sumsV_at(l:List Rl){k i:Nat}(hi:i<l.length):(sumsV l k)[i]? =some (.string (if i<k then fU DG l i else ByteArray.empty)):=by
 simp[sumsV,hi]
theorem sumsV_set(l:List Rl){k:Nat}(hk:k<l.length):(sumsV l k).set k (.string (fU DG l k))=sumsV l (k+1):=by
 apply List.ext_getElem?
 intro i
 rw[List.getElem?_set]
 by_cases hi:i<l.length
 ·by_cases h:k=i
  ·subst h
   rw[if_pos rfl,sumsV_len,if_pos hk,sumsV_at l hk,if_pos (by omega)]
  ·rw[if_neg h,sumsV_at l hi,sumsV_at l hi]
   by_cases h2:i<k
   ·rw[if_pos h2,if_pos (by omega)]
   ·rw[if_neg h2,if_neg (by omega)]
 ·have e1:∀j,(sumsV l j)[i]? =none:=fun j=>List.getElem?_eq_none (by rw[sumsV_len];omega)
  rw[if_neg (by omega),e1,e1]
theorem below_set1{w:World}{B b k:Nat}(h:B<=b)(u:Value):Below B w (w.setCell ⟨b,k,none⟩ u):=aq (a:=⟨b,k,none⟩) h u
structure C1 (W:World) (l:List Rl) (i k:Nat) (w:World):Prop where
 sums:Row w W.heap.size 9 (sumsV l i)
 grp:∃L,Groups w sV sOk encN (W.heap.size+2) 3 1 (W.heap.size+1) L/\bQ L=aN (cR l) id (eI DG l k)
 below:Below W.heap.size W w
 size:W.heap.size+2<=w.heap.size
theorem C1.grow{W w w':World}{l:List Rl}{i k:Nat}(h:C1 W l i k w)(hb:Below w.heap.size w w'):C1 W l i k w':=by
 obtain⟨L,hg,hL⟩:=h.grp
 exact⟨h.sums.below hb h.sums.lt,⟨L,hg.keep (hb.block _ hg.map.lt) (fun g _ hg=>hb.block _ hg),hL⟩,h.below.trans (hb.mono h.below.size),Nat.le_trans h.size hb.size⟩
theorem C1.sum{W w:World}{l:List Rl}{k:Nat}(h:C1 W l k k w)(hk:k<l.length){D:ByteArray}(hD:D=fU DG l k):C1 W l (k+1) k (w.setCell ⟨W.heap.size,k,none⟩ (.string D)):=by
 obtain⟨L,hg,hL⟩:=h.grp
 have hne:∀g,g≠W.heap.size->(w.setCell ⟨W.heap.size,k,none⟩ (.string D)).heap[g]? =w.heap[g]? :=fun g hg=>Below.heap_setCell _ _ _ _ hg
 refine⟨?_,⟨L,hg.keep (hne _ (by omega)) (fun g h1 _=>hne g (by omega)),hL⟩,h.below.trans (below_set1 (Nat.le_refl _) _),by simp[World.setCell];exact h.size⟩
 have h1:=Blk.set (show Blk w _ _ _ from h.sums) k (.string D)
 rw[hD,sumsV_set l hk]at h1
 rw[hD];exact h1
theorem C1.skip{W w:World}{l:List Rl}{k:Nat}(h:C1 W l (k+1) k w)(hD:fU DG l k=ByteArray.empty):C1 W l (k+1) (k+1) w:=by
 obtain⟨L,hg,hL⟩:=h.grp
 exact⟨h.sums,⟨L,hg,by rw[hL,have_succ,if_pos hD]⟩,h.below,h.size⟩
theorem C1.add{W w w':World}{l:List Rl}{k:Nat}(h:C1 W l (k+1) k w)(hD:fU DG l k≠ByteArray.empty){L:List (dy×(Value×List Nat))}(hL:bQ L=aN (cR l) id (eI DG l k)){u:Value}
  (hg:Groups w' sV sOk encN (W.heap.size+2) 3 1 (W.heap.size+1) (Mk.put L (cR l k) (u,((Mk.get L (cR l k)).map Prod.snd).getD []++ [k]))) (ho:Oth (W.heap.size+2) (W.heap.size+1) w w'):C1 W l (k+1) (k+1) w':=by
 refine⟨h.sums.keep (ho.block _ (by omega) (by omega)),⟨_,hg, ?_⟩,h.below.trans (ho.below (by omega) (by omega)),Nat.le_trans h.size ho.size⟩
 rw[fF,have_succ,if_neg hD,bN, <-hL]
 unfold Cs.grp
 rw[dE]
 rfl
theorem have_len(l:List Rl)(k:Nat):(eI DG l k).length<=k:=Nat.le_trans (List.length_filter_le _ _) (by simp)
theorem C1.len{l:List Rl}{k:Nat}{L:List (dy×(Value×List Nat))}(hL:bQ L=aN (cR l) id (eI DG l k))(hk:k<=4000):∀p∈L,p.2.2.length+1<=maxLen/\(p.2.2.length+1)*8<=140737488355328:=fun p hp=>by
 have h1:(p.1,p.2.2)∈aN (cR l) id (eI DG l k):=by rw[<-hL];exact List.mem_map.2 ⟨p,hp,rfl⟩
 have h2:=dD _ _ h1
 have h3:=have_len l k
 unfold maxLen
 omega
structure C2 (w0:World) (l:List Rl) (bs k:Nat) (out:List (Nat×Nat)) (v:Value) (w:World):Prop where
 map:∃M:List (dy×Value),Mk.MapIs w sV sOk id (bs+1) M/\∀s,bM DG l k s≠ []->∃g off c,Mk.get M s=some (.slice (some ⟨g,off,none⟩) (bM DG l k s).length c)/\(bM DG l k s).length<=c/\SL w0 1 encN (some ⟨g,off,none⟩) (bM DG l k s)
 out:w.ownsRow w0.heap.size 106 2 v out.length (out.flatMap encP)
 oth:Oth w0.heap.size (bs+1) w0 w
theorem get_fst{α β γ:Type}[DecidableEq α](L:List (α×(β×γ)))(s:α):Mk.get (L.map fun e=>(e.1,e.2.1)) s=(Mk.get L s).map Prod.fst:=by
 induction L with
 |nil=>rfl
 |cons p r ih=>
  rw[List.map_cons,Mk.get,Mk.get]
  by_cases h:p.1=s
  ·rw[if_pos h,if_pos h];rfl
  ·rw[if_neg h,if_neg h,ih]
theorem C2.start{W w0:World}{l:List Rl}(h:C1 W l l.length l.length w0):C2 w0 l W.heap.size 0 [] (.slice none 0 0) w0:=by
 obtain⟨L,hg,hL⟩:=h.grp
 refine⟨⟨L.map fun e=>(e.1,e.2.1), ?_,fun s hs=> ?_⟩,World.ownsRow_nil _ _ _ _,⟨rfl,rfl,rfl,Nat.le_refl _,fun _ _ _=>rfl⟩⟩
 ·obtain⟨es,ck,h1,h2,h3,h4⟩:=hg.map
  exact⟨es,ck,h1,h2,by rw[h3,List.map_map];rfl,fun p hp=>by obtain⟨q,hq,rfl⟩:=List.mem_map.1 hp;exact h4 q hq⟩
 ·have h1:=later_zero DG l s
  rw[<-hL,dE]at h1
  rw[<-h1]at hs⊢
  cases hgs:Mk.get L s with
  |none=>rw[hgs]at hs;exact absurd rfl hs
  |some p=>
   rw[hgs]at hs
   obtain⟨g,c,cur,hv,_,_,hc,_,_,hsl⟩:=Apl.own_at (ec:=encN) (fun _=>rfl) (hg.row (s,p) (Mk.get_mem hgs)) hs
   exact⟨g,0,c,by rw[get_fst,hgs];exact congrArg some hv,hc,hsl⟩
section
variable {w0 w w':World} {l:List Rl} {bs k:Nat} {out:List (Nat×Nat)} {v:Value}
theorem C2.grow(h:C2 w0 l bs k out v w)(hbs:bs+1<w0.heap.size)(hb:Below w.heap.size w w'):C2 w0 l bs k out v w':=by
 obtain⟨M,hm,hM⟩:=h.map
 exact⟨⟨M,hm.keep (hb.block _ hm.lt),hM⟩,owns_keep h.out fun g hg=>hb.block _ (owns_lt h.out hg).2,⟨hb.os.trans h.oth.os,hb.tape.trans h.oth.tape,hb.output.trans h.oth.output,Nat.le_trans h.oth.size hb.size,fun g h1 h2=>(hb.block g (Nat.lt_of_lt_of_le h1 h.oth.size)).trans (h.oth.block g h1 h2)⟩⟩
theorem C2.skip(h:C2 w0 l bs k out v w)(hk:k<l.length)(hD:fU DG l k=ByteArray.empty):C2 w0 l bs (k+1) out v w:=by
 obtain⟨M,hm,hM⟩:=h.map
 refine⟨⟨M,hm,fun s hs=> ?_⟩,h.out,h.oth⟩
 rw[<-later_else DG l hk (.inl hD)]at hs⊢
 exact hM s hs
theorem C2.put(h:C2 w0 l bs k out v w)(hk:k<l.length)(hbs:bs+1<w0.heap.size)(hD:fU DG l k≠ByteArray.empty){M:List (dy×Value)}(hM:∀s,bM DG l k s≠ []->∃g off c,Mk.get M s=some (.slice (some ⟨g,off,none⟩) (bM DG l k s).length c)/\(bM DG l k s).length<=c/\SL w0 1 encN (some ⟨g,off,none⟩) (bM DG l k s))
  {u:Value} (hu:bM DG l (k+1) (cR l k)≠ []->∃g off c,u= .slice (some ⟨g,off,none⟩) (bM DG l (k+1) (cR l k)).length c/\(bM DG l (k+1) (cR l k)).length<=c/\SL w0 1 encN (some ⟨g,off,none⟩) (bM DG l (k+1) (cR l k)))
  (hm:Mk.MapIs w' sV sOk id (bs+1) (Mk.put M (cR l k) u)) (hg:w.grownBy w' (some (bs+1))):C2 w0 l bs (k+1) out v w':=by
 refine⟨⟨_,hm,fun s hs=> ?_⟩,owns_keep h.out fun g hgo=>hg.block _ (owns_lt h.out hgo).2 (fun e=>by have:=(owns_lt h.out hgo).1;injection e with e;omega),⟨hg.os.trans h.oth.os,hg.tape.trans h.oth.tape,hg.output.trans h.oth.output,Nat.le_trans h.oth.size hg.size,fun g h1 h2=>(hg.block g (Nat.lt_of_lt_of_le h1 h.oth.size) (fun e=>h2 (Option.some.inj e))).trans (h.oth.block g h1 h2)⟩⟩
 rw[Mk.get_put]
 by_cases e:s=cR l k
 ·rw[if_pos e]
  subst e
  obtain⟨g,off,c,h1,h2,h3⟩:=hu hs
  exact⟨g,off,c,by rw[h1],h2,h3⟩
 ·rw[if_neg e]
  rw[<-later_else DG l hk (.inr (Ne.symm e))]at hs⊢
  exact hM s hs
theorem C2.append(h:C2 w0 l bs k out v w)(hbs:bs+1<w0.heap.size){p:Nat×Nat}{u:Value}(ho:w'.ownsRow w0.heap.size 106 2 u (out.length+1) (out.flatMap encP++encP p))(hg:w.grownBy w' v.ownBlock):C2 w0 l bs k (out++ [p]) u w':=by
 obtain⟨M,hm,hM⟩:=h.map
 have hne:∀g,g<w0.heap.size->(some g:Option Nat)≠v.ownBlock:=fun g hgl e=>by have:=(owns_lt h.out e.symm).1;omega
 exact⟨⟨M,hm.keep (hg.block _ hm.lt (hne _ hbs)),hM⟩,by rw[List.length_append,List.flatMap_append];simpa using ho,⟨hg.os.trans h.oth.os,hg.tape.trans h.oth.tape,hg.output.trans h.oth.output,Nat.le_trans h.oth.size hg.size,fun g h1 h2=>(hg.block g (Nat.lt_of_lt_of_le h1 h.oth.size) (hne g h1)).trans (h.oth.block g h1 h2)⟩⟩
theorem C2.sl(h:C2 w0 l bs k out v w){es:Array MapEntry}{ck:Nat}(hmap:w0.heap[bs+1]? =some (.map es ck)){sz:Nat}{α:Type}{ec:α->List Value}{A:Option Addr}{xs:List α}(hs:SL w0 sz ec A xs):SL w sz ec A xs:=by
 refine⟨fun hne=> ?_⟩
 obtain⟨b,off,e,hc⟩:=hs.cells hne
 refine⟨b,off,e,fun j x hj p u hu=> ?_⟩
 have h1:=hc j x hj p u hu
 have h2:=World.block_lt_of_cell? _ _ h1
 have hne:b≠bs+1:=fun eb=>by
  subst eb
  simp[World.cell?,hmap]at h1
 rw[World.cell?_of_block (h.oth.block b h2 hne)]
 exact h1
end
end Go.Proofs.YtekfoaenomgjgaaGreatDoor

namespace Go.Proofs.YtekfoaenomgjgaaGreatDoor
open Go.RowKit Go.W32 Go.Blk Go.Cs Go.Lib Go.Opn Go.Mg

end Go.Proofs.YtekfoaenomgjgaaGreatDoor
