/- The reference of layer 24: lists of numbers, clauses and patches compared. No condition. The reference of layer 30: lists of pairs compared. No condition. The references of layers 24 and 30: patches, amendments and their lists compared. No condition. The reference of layer 30: amendments, their lists, and lists of pairs compared. No condition. The references of layers 24 and 30: small letters, letters without those of a party, lists of pairs. No condition. Law 30: a patch that waives a clause; what two parties agree on by two letters and a further one. Condition: the variables of digest and strconv hold their numbers. Law 30: what two parties agree on by two letters and a further one. Condition: the variables of digest and strconv hold their numbers. The head of law 30: its digests. No condition. Law 30: what two parties agree on, in the cases of the head. Condition: the variables of digest and strconv hold their numbers. Law 30: its head is true. Condition: the variables of digest and strconv hold their numbers. Slices opened to lists, as arguments and as parts of structs. No condition. Letters opened, as arguments. Condition: the arguments are readable. -/
import Derived.Test.YtekfoaenomgjgaaGreatDoorYE
import Derived.Test.YtekfoaenomgjgaaGreatDoorYA
import Derived.Great.BuildSlice
import Derived.Test.YtekfoaenomgjgaaGreatDoorYC
import Derived.Lib.SmallJoins
set_option maxRecDepth 100000
set_option linter.all false
namespace Go.Proofs.YtekfoaenomgjgaaGreatDoor
open Go.RowKit Go.W32 Go.Blk Go.Cs Go.Lib Go.Opn Go.Mg

theorem bR{w:World}{b off k:Nat}{l:List Int}{x:Int}(h:SL w 1 Cs.encI (some ⟨b,off,none⟩) l)(hk:l[k]? =some x):w.cell? ⟨b,off+k,none⟩=some (.int .i64 x):=by
 obtain⟨b',o',e,hc⟩:=h.at_ hk
 injection e with e
 injection e with e1 e2
 subst e1 e2
 have:=hc 0 (.int .i64 x) rfl
 rwa[show off+(k*1+0)=off+k by omega]at this
theorem aC{α:Type}{ec:α->List Value}{sz:Nat}{w:World}{A:Option Addr}{l:List α}(h:SL w sz ec A l)(hne:l≠ []):∃b off,A=some ⟨b,off,none⟩:=by
 obtain⟨b,off,e,_⟩:=h.cells hne
 exact⟨b,off,e⟩
end Go.Proofs.YtekfoaenomgjgaaGreatDoor

namespace Go.Proofs.YtekfoaenomgjgaaGreatDoor
open Go.RowKit Go.W32 Go.Blk Go.Cs Go.Lib Go.Opn Go.Mg

end Go.Proofs.YtekfoaenomgjgaaGreatDoor

namespace Go.Proofs.YtekfoaenomgjgaaGreatDoor
open Go.RowKit Go.W32 Go.Blk Go.Cs Go.Lib Go.Opn Go.Mg
structure PatSz (p:Pat):Prop where
 cl:p.cl.length<=4611686018427387903
 st:p.new.start.length<=4611686018427387903
end Go.Proofs.YtekfoaenomgjgaaGreatDoor

namespace Go.Proofs.YtekfoaenomgjgaaGreatDoor
open Go.RowKit Go.W32 Go.Blk Go.Cs Go.Lib Go.Opn Go.Mg

theorem az{α:Type}{ec:α->List Value}{sz:Nat}{w:World}{b off k:Nat}{l:List α}{x:α}(h:SL w sz ec (some ⟨b,off,none⟩) l)(hk:l[k]? =some x):w.rangeAt b (off+k*sz) (ec x):=fun j v hj=>by
 obtain⟨b',o',e,hc⟩:=h.at_ hk
 injection e with e
 injection e with e1 e2
 subst e1 e2
 have:=hc j v hj
 rw[<-Nat.add_assoc]at this
 exact this
structure AmAt (w:World) (x:Pr×Hd):Prop where
 pat:PatAt w x.1.x.patch x.2
 sz:PatSz x.1.x.patch
theorem AmAt.below{w w':World}{x:Pr×Hd}{B:Nat}(h:AmAt w x)(hb:Below B w w')(hB:w.heap.size<=B):AmAt w' x:=⟨h.pat.below hb hB,h.sz⟩
end Go.Proofs.YtekfoaenomgjgaaGreatDoor

namespace Go.Proofs.YtekfoaenomgjgaaGreatDoor
open Go.RowKit Go.W32 Go.Blk Go.Cs Go.Lib Go.Opn Go.Mg

def ff(p:Pat):Bool:=decide (p.cl.length<=500)&&decide (p.new.start.length<=20)
def gf(r:Rl):Bool:=ff r.1.patch&&decide (r.1.sum.size<=200)
def di(m:Nat)(l:List Rl):Bool:=decide (l.length<=m)&&l.all gf
set_option maxHeartbeats 1000000 in
theorem s4_any(p:Pat)(h:Hd)(W:World):Calls Tryz.prog 24 #[.agg (aw p h).toArray] W fun e w'=>e= .returned (.bool (ff p))/\Below W.heap.size W w':=by
 obtain⟨R,eR⟩:∃R:Ending->World->Prop,R=fun e w'=>e= .returned (.bool (ff p))/\Below W.heap.size W w':=⟨_,rfl⟩
 rw[<-eR]
 have FIN:Hid (∀w' v,v=ff p->Below W.heap.size W w'->R (.returned (.bool v)) w'):=h_ fun w' v h hb=>by rw[eR,h];exact⟨rfl,hb⟩
 clear eR
 obtain⟨cs,ecs⟩:∃cs,cs=aw p h:=⟨_,rfl⟩
 rw[<-ecs]
 have hr:Row (W.alloc (.cells cs.toArray 47)) W.heap.size 47 cs:=Row.new _ _ _
 have hb:Below W.heap.size W (W.alloc (.cells cs.toArray 47)):=(Below.refl _ _).alloc (Nat.le_refl _) _
 have c1:=hr.at (show cs[1]? =some (.slice h.A p.cl.length h.c) by rw[ecs];rfl)
 have c6:=hr.at (show cs[6]? =some (.slice h.B p.new.start.length h.d) by rw[ecs];rfl)
 generalize eW:W.alloc (.cells cs.toArray 47)=W2 at*
 have EW:=h_ eW
 have HB:=h_ hb
 clear hr hb ecs eW
 by_cases h1:p.cl.length<=500
 ·have h1i:(p.cl.length:Int)<=500:=by omega
  by_cases h2:p.new.start.length<=20
  ·have h2i:(p.new.start.length:Int)<=20:=by omega
   have HF:=h_ (FIN.out W2 true (by unfold ff;rw[decide_eq_true h1,decide_eq_true h2];rfl) HB.out)
   go_enter Tryz.func24,Tryz.ntmps24
   go_wp2_with (simp only[EW.out])
   exact HF.out
  ·have h2i: ¬(p.new.start.length:Int)<=20:=by omega
   have HF:=h_ (FIN.out W2 false (by unfold ff;rw[decide_eq_false h2,Bool.and_false]) HB.out)
   go_enter Tryz.func24,Tryz.ntmps24
   go_wp2_with (simp only[EW.out])
   exact HF.out
 ·have h1i: ¬(p.cl.length:Int)<=500:=by omega
  have HF:=h_ (FIN.out W2 false (by unfold ff;rw[decide_eq_false h1];rfl) HB.out)
  go_enter Tryz.func24,Tryz.ntmps24
  go_wp2_with (simp only[EW.out])
  exact HF.out
theorem ct{α:Type}{f:α->Bool}{l:List α}{k:Nat}{x:α}(hx:l[k]? =some x)(h:(l.take k).all f=true)(hf:f x=true):(l.take (k+1)).all f=true:=by
 rw[List.take_add_one,hx,Option.toList_some,List.all_append,h]
 simp[hf]
theorem bm{α:Type}{f:α->Bool}{l:List α}{k:Nat}{x:α}(hx:l[k]? =some x)(hf:f x=false):l.all f=false:=by
 rw[List.all_eq_false]
 exact⟨x,List.mem_of_getElem? hx,by simp[hf]⟩
set_option maxHeartbeats 2000000 in
theorem sl_any(m:Nat)(A:Option Addr)(c:Nat)(l:List Rl)(W:World)(hl:SL W 25 ay A l)(hn:l.length<=9223372036854775807)(hm:m<=1000):
  Calls Tryz.prog 8 #[.slice A l.length c, .int .i64 (m:Int)] W fun e w'=>e= .returned (.bool (di m l))/\Below W.heap.size W w':=by
 obtain⟨R,eR⟩:∃R:Ending->World->Prop,R=fun e w'=>e= .returned (.bool (di m l))/\Below W.heap.size W w':=⟨_,rfl⟩
 rw[<-eR]
 have FIN:Hid (∀w' v,v=di m l->Below W.heap.size W w'->R (.returned (.bool v)) w'):=h_ fun w' v h hb=>by rw[eR,h];exact⟨rfl,hb⟩
 clear eR
 have HL:=h_ hl
 clear hl
 go_enter Tryz.func8,Tryz.ntmps8
 by_cases hmm:l.length<=m
 rotate_left
 ·have hmi: ¬(l.length:Int)<=(m:Int):=by omega
  have HF:=h_ (FIN.out W false (by unfold di;rw[decide_eq_false hmm];rfl) (Below.refl _ _))
  go_wp2_with fail
  exact HF.out
 have hmi:(l.length:Int)<=(m:Int):=by omega
 go_wp2_with fail
 rw[show decide (m<l.length)=false from decide_eq_false (by omega)]
 go_loopw [5] (fun v wr=> ∃k:Nat,v= .int .i64 (k:Int)/\k<=l.length/\(l.take k).all gf=true/\Below W.heap.size W wr) (fun v _=>(l.length:Int).toNat- (RowKit.intOf v).toNat)
 case atStart=>exact⟨0,rfl,Nat.zero_le _,rfl,Below.refl _ _⟩
 case round=>
  obtain⟨k,rfl,hk,ht,hbw⟩:=hrel
  rcases Nat.lt_or_eq_of_le hk with hkl|hkl
  ·have hki:(k:Int)<(l.length:Int):=by omega
   obtain⟨ba,oa,rfl⟩:=aC HL.out (by rintro rfl;simp at hkl)
   obtain⟨r,er⟩:∃x,l[k]? =some x:=⟨_,List.getElem?_eq_getElem hkl⟩
   have hrg:=az (HL.out.below hbw (Nat.le_refl _)) er
   obtain⟨ps,eps⟩:∃ps,ps=aw r.1.patch r.2:=⟨_,rfl⟩
   have HP:Hid (wr.rangeAt ba (oa+k*25+5) ps):=h_ fun j v hj=>by
    have h:=hrg (5+j) v (by rw[eps]at hj;exact let_at hj)
    rw[<-Nat.add_assoc]at h;exact h
   have HIP:Hid ((Tryz.prog.info? 47).map (·.size)=some ps.length):=by show _=_;rw[eps];kernel_rfl
   have CS:=h_ (s4_any r.1.patch r.2 wr)
   rw[<-eps]at CS
   obtain⟨V,eV⟩:∃V,V=ff r.1.patch:=⟨_,rfl⟩
   rw[<-eV]at CS
   have HC:Hid (∀w',Below wr.heap.size wr w'->w'.cell? ⟨ba,oa+k*25+24,none⟩=some (.string r.1.sum)):=h_ fun w' hb=>by
    have h:=hrg 24 (.string r.1.sum) rfl
    have hl:=World.block_lt_of_cell? _ _ h
    rw[hb.cell (p:=⟨ba,oa+k*25+24,none⟩) hl];exact h
   have HT:=h_ ht
   have ER:=h_ er
   have EV:=h_ eV
   have HBX:=h_ hbw
   clear ht er hrg hbw hk eps eV
   go_wp2_with (refine ae (.tmp 19) ?_;refine wpList_load_mid rfl 47 (.tmp 19) rfl ba (oa+k*25+5) rfl ps _ HP.out Tryz.underlying47 rfl HIP.out ?_)
   refine CS.out.mono ?_
   rintro e w5 ⟨rfl,hb5⟩
   have c24:=HC.out w5 hb5
   have HB5:=h_ (HBX.out.trans (hb5.mono HBX.out.size))
   clear hb5 HC CS HP
   cases V with
   |false=>
    have HF:=h_ (FIN.out w5 false (by unfold di;rw[bm ER.out (by unfold gf;rw[<-EV.out];rfl),Bool.and_false]) HB5.out)
    go_wp2_with fail
    exact HF.out
   |true=>
    by_cases hs:r.1.sum.size<=200
    ·have hsi:(r.1.sum.size:Int)<=200:=by omega
     go_wp2_with fail
     go_roundw
     case rel=>exact⟨k+1,rfl,hkl,ct ER.out HT.out (by unfold gf;rw[<-EV.out,decide_eq_true hs];rfl),HB5.out⟩
     case measure=>simp[RowKit.intOf];omega
    ·have hsi: ¬(r.1.sum.size:Int)<=200:=by omega
     have HF:=h_ (FIN.out w5 false (by unfold di;rw[bm ER.out (by unfold gf;rw[decide_eq_false hs,Bool.and_false]),Bool.and_false]) HB5.out)
     go_wp2_with fail
     exact HF.out
  ·have hki: ¬(k:Int)<(l.length:Int):=by omega
   have HF:=h_ (FIN.out wr true (by unfold di;rw[List.take_of_length_le (by omega)]at ht;rw[ht,decide_eq_true hmm];rfl) hbw)
   clear ht hbw
   go_wp2_with fail
   exact HF.out
theorem info_let:(Tryz.prog.info? 49).map (fun i=>(i.zero,i.size,i.bytes))=some (some (.agg (ay (⟨0,0,0,0,0,Pat.zero,⟨#[]⟩⟩,⟨none,0,none,0⟩)).toArray),25,232):=by kernel_rfl
end Go.Proofs.YtekfoaenomgjgaaGreatDoor

namespace Go.Proofs.YtekfoaenomgjgaaGreatDoor
open Go.RowKit Go.W32 Go.Blk Go.Cs Go.Lib Go.Opn Go.Mg

theorem fold_at(off:Nat):∀(l:List Value) (k:Nat) (z:Array Value),off+k+l.length<=z.size->((l.zipIdx k).foldl (fun(cs:Array Value) (x:Value×Nat)=>cs.setIfInBounds (off+x.2) x.1) z).toList=z.toList.take (off+k)++l++z.toList.drop (off+k+l.length)
 | [],k,z,_=>by simp
 |x::l,k,z,h=>by
  rw[List.zipIdx_cons,List.foldl_cons]
  rw[List.length_cons]at h
  have hk:off+k<z.toList.length:=by simp;omega
  rw[fold_at off l (k+1) (z.setIfInBounds (off+k) x) (by simp;omega),Array.toList_setIfInBounds,show off+(k+1)=off+k+1 by omega,List.take_succ_eq_append_getElem (by simpa using hk),List.take_set_of_le (Nat.le_refl _),List.getElem_set_self,List.drop_set_of_lt (by omega),List.length_cons,List.append_assoc,List.append_assoc,List.append_assoc]
  rw[show off+k+1+l.length=off+k+(l.length+1) by omega]
  rfl
theorem fill_step{size n off:Nat}{z:Array Value}{E:List Value}{rest:List (Nat×Value)}{k:Nat}(hE:E.length=size)(ho:off=k*size)(hz:off+size<=z.size){z':Array Value}(hz':z'.toList=z.toList.take off++E++z.toList.drop (off+size)):
  Instr.fill (fun i=>some (i*size,size)) z ((k, .agg E.toArray)::rest)=Instr.fill (fun i=>some (i*size,size)) z' rest:=by
 rw[Instr.fill]
 dsimp only
 rw[if_neg (by simp[Value.cells,hE];omega)]
 have h:=fold_at off E 0 z (by omega)
 rw[Nat.add_zero,hE]at h
 congr 1
 apply Array.ext'
 rw[hz', <-h, <-Array.foldl_toList,Array.toList_zipIdx,ho]
 rfl
end Go.Proofs.YtekfoaenomgjgaaGreatDoor

namespace Go.Proofs.YtekfoaenomgjgaaGreatDoor
open Go.RowKit Go.W32 Go.Blk Go.Cs Go.Lib Go.Opn Go.Mg

theorem at_bd{P:Program}{ops:Array Oper}{rest:List Oper}{a:Act}{Q:Exit->Act->World->Prop}(x:Operand){t:TypeId}{p1 p2 p3 p4:Nat×Operand}{n:Nat}{d:Option Tmp}{ty:TypeId}{ps:String}{af:Array Edge}{g:Option (Nat×Bool)}{w:World}
  (h:wpList P ops Q (⟨d, .build t #[p1,p2,p3,p4,(n,x)],ty,ps,af,g⟩::rest) a w):wpList P ops Q (⟨d, .build t #[p1,p2,p3,p4,(n,x)],ty,ps,af,g⟩::rest) a w:=h
theorem exec_slice3{P:Program}{o:Oper}{ρ:Operand->Value}{w w':World}{t:TypeId}{x y z:Operand}{v:Value}(ho:o.op= .buildSlice t 3 #[(0,x),(1,y),(2,z)])(h:(Instr.buildSlice t 3 #[(0,ρ x),(1,ρ y),(2,ρ z)]).run P w= .ok v w'):(execOp ρ o).run P w= .ok (.value v) w':=by
 unfold execOp
 simp[ho,h]
theorem zero_ok:PatOk Pat.zero:=by
 refine⟨fun n hn=> ?_,by simp[Pat.zero],by simp[Pat.zero,Cls.zero]⟩
 simp[Pat.nums,Pat.zero,Cls.nums,Cls.zero,Cls.front,Cls.back,b2i]at hn
 unfold bn
 omega
end Go.Proofs.YtekfoaenomgjgaaGreatDoor

namespace Go.Proofs.YtekfoaenomgjgaaGreatDoor
open Go.RowKit Go.W32 Go.Blk Go.Cs

end Go.Proofs.YtekfoaenomgjgaaGreatDoor

namespace Go.Proofs.YtekfoaenomgjgaaGreatDoor
open Go.RowKit Go.W32 Go.Blk Go.Cs Go.Lib Go.Opn Go.Mg

end Go.Proofs.YtekfoaenomgjgaaGreatDoor

namespace Go.Proofs.YtekfoaenomgjgaaGreatDoor
open Go.RowKit Go.W32 Go.Blk Go.Cs Go.Lib Go.Opn Go.Mg
structure HdIs (W w:World) (g1 g2 b1 b2 b3 b4 b5:Nat) (ms us ul vs vl:List Value):Prop where
 below:Below W.heap.size W w
 w1:Row w g1 3 [.int .i64 0]
 w2:Row w g2 3 [.int .i64 1]
 one:Row w b1 62 ms
 wd:Row w b2 49 us
 late:Row w b3 49 ul
 oth:Row w b4 49 vs
 lat:Row w b5 49 vl
theorem HdIs.next{W w w':World}{g1 g2 b1 b2 b3 b4 b5:Nat}{ms us ul vs vl:List Value}(h:HdIs W w g1 g2 b1 b2 b3 b4 b5 ms us ul vs vl)(hb:Below w.heap.size w w'):HdIs W w' g1 g2 b1 b2 b3 b4 b5 ms us ul vs vl:=
 ⟨h.below.trans (hb.mono h.below.size),h.w1.below hb h.w1.lt,h.w2.below hb h.w2.lt,h.one.below hb h.one.lt,h.wd.below hb h.wd.lt,h.late.below hb h.late.lt,h.oth.below hb h.oth.lt,h.lat.below hb h.lat.lt⟩
theorem Row.rg{w:World}{b:Nat}{T:TypeId}{cs:List Value}(h:Row w b T cs):w.rangeAt b 0 cs:=h.range (fun j v hj=>by rw[Nat.zero_add];exact hj)
end Go.Proofs.YtekfoaenomgjgaaGreatDoor

namespace Go.Opn
open Go Go.RowKit Go.ChangeShapes Go.WideShapes Go.Deep
section
variable {H:Type} {enc:TypeId×Value->H} {P:Program} {w:World} {base:Nat} {spare:Nat->Bool} {held:Bool}
theorem one_of{t e:TypeId}{v:Value}{d:DataW H}{ps:List MemPlace}{r:Reach}{b0:Nat}(ht:P.underlying t=some (.slice e))(hv:Value.okWide P w r b0 t v)(h:DataW.Trod enc P w base spare held t v d ps):
  ∃f x,DataW.trod enc P w base spare held f t [v]=some x:=by
 obtain⟨fuel,hf⟩:=h
 have hvc:∀x:Value,v.cells.toList= [x]->v=x:=by
  intro x hx
  cases v<;>simp[Value.cells]at hx<;>first|exact hx|skip
  simp only[Value.okWide,ht]at hv
  simp[Cell.okWide,Cell.ok,ht]at hv
 rcases open_slice ht hf with⟨h0,_⟩|⟨a,len,cap,m,n,D,Pl,hcs,_⟩
 ·rw[h0]at hf;rw[hvc _ h0];exact⟨_,_,hf⟩
 ·rw[hcs]at hf;rw[hvc _ hcs];exact⟨_,_,hf⟩
theorem open_list{α:Type}[Inhabited α]{ec:α->List Value}{K:α->Prop}{t e:TypeId}{v:Value}{f:Nat}{x:DataW H×List MemPlace}(ht:P.underlying t=some (.slice e))(h0:0<P.cellsOf e)
  (hel:∀(f:Nat) (cs:List Value) (x:DataW H×List MemPlace),DataW.trod enc P w base spare held f e cs=some x->∃a:α,K a/\∀(p:Nat) u,(ec a)[p]? =some u->cs[p]? =some u)
  (h:DataW.trod enc P w base spare held f t [v]=some x):
  ∃(A:Option Addr) (c:Nat) (l:List α),v= .slice A l.length c/\l.length<=9223372036854775807/\l.length<=c/\SL w (P.cellsOf e) ec A l/\∀a∈l,K a:=by
 rcases open_slice ht h with⟨h1,_⟩|⟨a,len,cap,m,n,D,Pl,hcs,hb,hl,hm,hmm,hx,hi⟩
 ·cases h1
  exact⟨none,0,[],rfl,Nat.zero_le _,Nat.zero_le _,SL.nil,fun a ha=>by cases ha⟩
 ·cases hcs
  have hi2:∀i,i<len->∃y:α,K y/\∃b off,a=⟨b,off,none⟩/\∀p u,(ec y)[p]? =some u->w.cell? ⟨b,off+(i*P.cellsOf e+p),none⟩=some u:=by
   intro i hil
   have him:i<m:=by rw[hmm];split<;>omega
   obtain⟨cs',hc,ht'⟩:=hi i him
   obtain⟨_,hcl,hat⟩:=World.cells?_some hc
   have hs:a.spot=none:=by
    obtain⟨cs0,hc0,_⟩:=hi 0 (by omega)
    obtain⟨_,hcl0,hat0⟩:=World.cells?_some hc0
    have h1:=hat0 0 h0
    rw[Nat.zero_mul,List.getElem?_eq_getElem (by omega)]at h1
    have e0:(a.add 0).add 0=a:=rfl
    rw[e0]at h1
    unfold World.cell? at h1
    split at h1
    ·split at h1
     ·cases h1
     ·rename_i hsp
      simpa using hsp
    ·cases h1
   obtain⟨y,hy,hyc⟩:=hel _ _ _ ht'
   obtain⟨b,off,sp⟩:=a
   simp only at hs
   subst hs
   refine⟨y,hy,b,off,rfl,fun p u hu=> ?_⟩
   have hu':=hyc p u hu
   have hp:p<P.cellsOf e:=by rw[<-hcl];exact(List.getElem?_eq_some_iff.1 hu').1
   have h2:=hat p hp
   rw[add_add,hu']at h2
   rw[<-h2]
   congr 1
   unfold Addr.add
   split
   ·rename_i hz;rw[hz];rfl
   ·rfl
  obtain⟨g,hg⟩:=choose_lt hi2
  unfold maxLen at hm
  refine⟨some a,cap,(List.range len).map g,by simp,by simp;omega,by simpa using hl,⟨fun hn=> ?_⟩,fun y hy=> ?_⟩
  ·have h0:0<len:=by
    rcases Nat.eq_zero_or_pos len with h|h
    ·subst h;simp at hn
    ·exact h
   obtain⟨_,b,off,hA,_⟩:=hg 0 h0
   refine⟨b,off,by rw[hA],fun i y hie p u hu=> ?_⟩
   have hil:i<len:=by
    have:=(List.getElem?_eq_some_iff.1 hie).1
    simpa using this
   have he:g i=y:=by
    rw[List.getElem?_map,List.getElem?_range hil]at hie
    simpa using hie
   obtain⟨_,b',off',hA',hcell⟩:=hg i hil
   rw[hA]at hA'
   injection hA' with e1 e2
   subst e1 e2
   rw[<-he]at hu
   exact hcell p u hu
  ·obtain⟨i,hi,rfl⟩:=List.mem_map.1 hy
   exact(hg i (List.mem_range.1 hi)).1
theorem bL{α:Type}[Inhabited α]{ec:α->List Value}{K:α->Prop}{t t' e:TypeId}{f fuel p:Nat}{cs:List Value}{x:DataW H×List MemPlace}(ht:P.underlying t'=some (.slice e))(h0:0<P.cellsOf e)
  (hel:∀(f:Nat) (cs:List Value) (x:DataW H×List MemPlace),DataW.trod enc P w base spare held f e cs=some x->∃a:α,K a/\∀(p:Nat) u,(ec a)[p]? =some u->cs[p]? =some u)
  (h:gj P f t p=some t') (hx:DataW.trod enc P w base spare held fuel t cs=some x):
  ∃(A:Option Addr) (c:Nat) (l:List α),cs[p]? =some (.slice A l.length c)/\l.length<=9223372036854775807/\l.length<=c/\SL w (P.cellsOf e) ec A l/\∀a∈l,K a:=by
 obtain⟨v,m,y,hv,hy⟩:=leaf f h hx
 obtain⟨A,c,l,rfl,h1,h2,h3,h4⟩:=open_list ht h0 hel hy
 exact⟨A,c,l,hv,h1,h2,h3,h4⟩
end
end Go.Opn

namespace Go.Proofs.YtekfoaenomgjgaaGreatDoor
open Go.RowKit Go.Blk Go.Cs Go.Opn Go.ChangeShapes Go.WideShapes Go.Deep Go.OpenShut

theorem cj:Tryz.prog.cellsOf 3=1:=by kernel_rfl
theorem dP:Tryz.prog.cellsOf 133=2:=by kernel_rfl
theorem gW:Tryz.prog.cellsOf 49=25:=by kernel_rfl
structure LetN (x:Let):Prop where
 nums:bn x.kind/\bn x.party/\bn x.number/\bn x.sent/\bn x.day
 patch:∀n∈x.patch.nums,bn n
structure LetW (w:World) (r:Rl):Prop where
 pat:PatAt w r.1.patch r.2
 nm:LetN r.1
theorem b2i_i64(b:Bool):bn (b2i b):=by cases b<;>(unfold bn b2i;decide)
theorem int_of{H:Type}{enc:TypeId×Value->H}{w:World}{base:Nat}{spare:Nat->Bool}{held:Bool}{fuel:Nat}{cs:List Value}{x:DataW H×List MemPlace}(h:DataW.trod enc Tryz.prog w base spare held fuel 3 cs=some x):
  ∃a:Int,bn a/\∀(p:Nat) u,(Cs.encI a)[p]? =some u->cs[p]? =some u:=by
 obtain⟨n,hn,_,hw⟩:=DataW.trod_int Tryz.underlying3 h
 refine⟨n,bounds_i64 hw,fun p u hu=> ?_⟩
 rw[hn];exact hu
theorem cond_of{H:Type}{enc:TypeId×Value->H}{w:World}{base:Nat}{spare:Nat->Bool}{held:Bool}{fuel:Nat}{cs:List Value}{x:DataW H×List MemPlace}(hf:DataW.trod enc Tryz.prog w base spare held fuel 133 cs=some x):
  ∃a:Int×Int,(bn a.1/\bn a.2)/\∀(p:Nat) u,(ar a)[p]? =some u->cs[p]? =some u:=by
 obtain⟨a0,h0,w0⟩:=al (f:=3) (p:=0) Tryz.underlying3 (by kernel_rfl) hf
 obtain⟨a1,h1,w1⟩:=al (f:=3) (p:=1) Tryz.underlying3 (by kernel_rfl) hf
 refine⟨(a0,a1),⟨bounds_i64 w0,bounds_i64 w1⟩,fun p u hu=> ?_⟩
 match p,hu with
 |0,hu=>cases hu;exact h0
 |1,hu=>cases hu;exact h1
 |p+2,hu=>simp[ar]at hu
instance:Inhabited Rl:=⟨(⟨0,0,0,0,0,Pat.zero,⟨#[]⟩⟩,⟨none,0,none,0⟩)⟩
theorem nums_i64{p:Pat}(h1:bn p.kind/\bn p.days)(h2:p.cl.length<=9223372036854775807)(h3:∀a∈p.cl,bn a)(h4:p.new.start.length<=9223372036854775807)(h5:∀a∈p.new.start,bn a.1/\bn a.2)
  (h6:∀n∈p.new.front,bn n) (h7:∀n∈p.new.back,bn n):∀n∈p.nums,bn n:=by
 intro n hn
 have hl:∀k:Nat,k<=9223372036854775807->bn (k:Int):=fun k hk=>by unfold bn;omega
 simp only[Pat.nums,Cls.nums,List.mem_append,List.mem_cons,List.not_mem_nil,or_false,List.mem_flatMap]at hn
 rcases hn with((rfl|rfl|rfl)|hn)|((((hn|hn)|hn)|hn)|hn)
 ·exact h1.1
 ·exact h1.2
 ·exact hl _ h2
 ·exact h3 n hn
 ·exact h6 n hn
 ·rcases hn with rfl|rfl<;>exact b2i_i64 _
 ·exact h7 n hn
 ·rcases hn with rfl|rfl
  ·exact b2i_i64 _
  ·exact hl _ h4
 ·obtain⟨s,hs,hn⟩:=hn
  rcases hn with rfl|rfl
  ·exact(h5 s hs).1
  ·exact(h5 s hs).2
theorem let_of{H:Type}{enc:TypeId×Value->H}{w:World}{base:Nat}{spare:Nat->Bool}{held:Bool}{fuel:Nat}{cs:List Value}{x:DataW H×List MemPlace}(hf:DataW.trod enc Tryz.prog w base spare held fuel 49 cs=some x):
  ∃a:Rl,LetW w a/\∀(p:Nat) u,(ay a)[p]? =some u->cs[p]? =some u:=by
 obtain⟨a0,h0,w0⟩:=al (f:=5) (p:=0) Tryz.underlying3 (by kernel_rfl) hf
 obtain⟨a1,h1,w1⟩:=al (f:=5) (p:=1) Tryz.underlying3 (by kernel_rfl) hf
 obtain⟨a2,h2,w2⟩:=al (f:=5) (p:=2) Tryz.underlying3 (by kernel_rfl) hf
 obtain⟨a3,h3,w3⟩:=al (f:=5) (p:=3) Tryz.underlying3 (by kernel_rfl) hf
 obtain⟨a4,h4,w4⟩:=al (f:=5) (p:=4) Tryz.underlying3 (by kernel_rfl) hf
 obtain⟨a5,h5,w5⟩:=al (f:=5) (p:=5) Tryz.underlying3 (by kernel_rfl) hf
 obtain⟨a7,h7,w7⟩:=al (f:=5) (p:=7) Tryz.underlying3 (by kernel_rfl) hf
 obtain⟨a8,h8,w8⟩:=al (f:=5) (p:=8) Tryz.underlying3 (by kernel_rfl) hf
 obtain⟨a9,h9,w9⟩:=al (f:=5) (p:=9) Tryz.underlying3 (by kernel_rfl) hf
 obtain⟨a10,h10,w10⟩:=al (f:=5) (p:=10) Tryz.underlying3 (by kernel_rfl) hf
 obtain⟨a12,h12,w12⟩:=al (f:=5) (p:=12) Tryz.underlying3 (by kernel_rfl) hf
 obtain⟨a13,h13,w13⟩:=al (f:=5) (p:=13) Tryz.underlying3 (by kernel_rfl) hf
 obtain⟨a16,h16,w16⟩:=al (f:=5) (p:=16) Tryz.underlying3 (by kernel_rfl) hf
 obtain⟨a17,h17,w17⟩:=al (f:=5) (p:=17) Tryz.underlying3 (by kernel_rfl) hf
 obtain⟨a18,h18,w18⟩:=al (f:=5) (p:=18) Tryz.underlying3 (by kernel_rfl) hf
 obtain⟨a19,h19,w19⟩:=al (f:=5) (p:=19) Tryz.underlying3 (by kernel_rfl) hf
 obtain⟨a20,h20,w20⟩:=al (f:=5) (p:=20) Tryz.underlying3 (by kernel_rfl) hf
 obtain⟨a21,h21,w21⟩:=al (f:=5) (p:=21) Tryz.underlying3 (by kernel_rfl) hf
 obtain⟨a23,h23,w23⟩:=al (f:=5) (p:=23) Tryz.underlying3 (by kernel_rfl) hf
 obtain⟨A,c,l,h6,e1,e2,e3,e4⟩:=bL (α:=Int) (ec:=Cs.encI) (K:=bn) (f:=5) (p:=6) Tryz.underlying22 (by rw[cj];decide) (fun f cs x h=>int_of h) (by kernel_rfl) hf
 rw[cj]at e3
 obtain⟨B,d,m,h11,g1,g2,g3,g4⟩:=bL (α:=Int×Int) (ec:=ar) (K:=fun a=>bn a.1/\bn a.2) (f:=5) (p:=11) Tryz.underlying41 (by rw[dP];decide) (fun f cs x h=>cond_of h) (by kernel_rfl) hf
 rw[dP]at g3
 obtain⟨a14,h14⟩:=da (f:=5) (p:=14) Tryz.underlying4 (by kernel_rfl) hf
 obtain⟨a15,h15⟩:=da (f:=5) (p:=15) Tryz.underlying4 (by kernel_rfl) hf
 obtain⟨a22,h22⟩:=da (f:=5) (p:=22) Tryz.underlying4 (by kernel_rfl) hf
 obtain⟨a24,h24,w24⟩:=gO (f:=5) (p:=24) Tryz.underlying9 (by kernel_rfl) hf
 refine⟨(⟨a0,a1,a2,a3,a4,⟨a5,l,⟨a7,a8,a9,a10,m,a12,a13,a14,a15,a16,a17,a18,a19,a20,a21,a22⟩,a23⟩,a24⟩,⟨A,c,B,d⟩),⟨⟨e3,g3⟩,⟨⟨bounds_i64 w0,bounds_i64 w1,bounds_i64 w2,bounds_i64 w3,bounds_i64 w4⟩,nums_i64 ⟨bounds_i64 w5,bounds_i64 w23⟩ e1 e4 g1 g4 ?_ ?_⟩⟩,fun p u hu=> ?_⟩
 ·intro n hn
  simp only[Cls.front,List.mem_cons,List.not_mem_nil,or_false]at hn
  rcases hn with rfl|rfl|rfl|rfl|rfl|rfl<;>(apply bounds_i64;assumption)
 ·intro n hn
  simp only[Cls.back,List.mem_cons,List.not_mem_nil,or_false]at hn
  rcases hn with rfl|rfl|rfl|rfl|rfl|rfl<;>(apply bounds_i64;assumption)
 match p,hu with
 |0,hu=>cases hu;exact h0
 |1,hu=>cases hu;exact h1
 |2,hu=>cases hu;exact h2
 |3,hu=>cases hu;exact h3
 |4,hu=>cases hu;exact h4
 |5,hu=>cases hu;exact h5
 |6,hu=>cases hu;exact h6
 |7,hu=>cases hu;exact h7
 |8,hu=>cases hu;exact h8
 |9,hu=>cases hu;exact h9
 |10,hu=>cases hu;exact h10
 |11,hu=>cases hu;exact h11
 |12,hu=>cases hu;exact h12
 |13,hu=>cases hu;exact h13
 |14,hu=>cases hu;exact h14
 |15,hu=>cases hu;exact h15
 |16,hu=>cases hu;exact h16
 |17,hu=>cases hu;exact h17
 |18,hu=>cases hu;exact h18
 |19,hu=>cases hu;exact h19
 |20,hu=>cases hu;exact h20
 |21,hu=>cases hu;exact h21
 |22,hu=>cases hu;exact h22
 |23,hu=>cases hu;exact h23
 |24,hu=>cases hu;exact h24
 |p+25,hu=>simp[ay,aw]at hu
theorem open_letters{H:Type}{enc:TypeId×Value->H}{w:World}{base:Nat}{spare:Nat->Bool}{held:Bool}{v:Value}{d:DataW H}{ps:List MemPlace}{r:Reach}{b0:Nat}(hv:Value.okWide Tryz.prog w r b0 28 v)(h:DataW.Trod enc Tryz.prog w base spare held 28 v d ps):
  ∃(A:Option Addr) (c:Nat) (l:List Rl),v= .slice A l.length c/\l.length<=9223372036854775807/\l.length<=c/\SL w 25 ay A l/\∀a∈l,LetW w a:=by
 obtain⟨f,x,hf⟩:=one_of Tryz.underlying28 hv h
 have:=open_list (α:=Rl) (ec:=ay) (K:=fun a=>LetW w a) Tryz.underlying28 (by rw[gW];decide) (fun f cs x h=>let_of h) hf
 rw[gW]at this
 exact this
structure LetsW (w:World) (A:Option Addr) (l:List Rl):Prop where
 sl:SL w 25 ay A l
 el:∀r∈l,LetW w r
theorem LetW.ok{w:World}{r:Rl}(h:LetW w r)(hs:gf r=true):LetOk r.1:=by
 unfold gf ff at hs
 simp only[Bool.and_eq_true,decide_eq_true_eq]at hs
 exact⟨h.nm.nums,⟨h.nm.patch,by omega,by omega⟩,by omega⟩
theorem LetsW.ok{w:World}{A:Option Addr}{l:List Rl}{m:Nat}(h:LetsW w A l)(hs:di m l=true):LetsAt w A l:=by
 unfold di at hs
 simp only[Bool.and_eq_true,decide_eq_true_eq,List.all_eq_true]at hs
 exact⟨h.sl,fun r hr=>(h.el r hr).pat,fun r hr=>(h.el r hr).ok (hs.2 r hr)⟩
end Go.Proofs.YtekfoaenomgjgaaGreatDoor
