/- Clones of the lists of a contract. Condition: the lists lie in memory. -/
import Derived.Test.YtekfoaenomgjgaaGreatDoorCvT
import Derived.Test.YtekfoaenomgjgaaGreatDoorShelfH
set_option linter.all false
namespace Go.Cv
open Go Go.Cs Go.Opn Go.RowKit
def gF:ConM:=⟨0,[],[],[],[],0,[],none,0,none,0,none,0,none,0,none,0⟩
theorem encAc_len(a:AcT):(cP a).length=7:=rfl
theorem offF_len{d:Int}:∀ {l:List Int} {last:Int},cA d last l=true->(l.length:Int)<=max 0 (d-last-1)
 | [],_,_=>by simp;omega
 |x::r,last,h=>by
  simp only[cA,Bool.and_eq_true,decide_eq_true_eq]at h
  have:=offF_len h.2
  simp only[List.length_cons]
  omega
structure ConShort (c:ConM):Prop where
 h:c.holders.length<=12
 u:c.units.length<=20
 a:c.acts.length<=60
 k:c.kls.length<=400
 o:c.off.length<=2000
 st:∀k∈c.kls,k.1.start.length<=8
theorem clV_start{c:Con}{i:Nat}{k:Cls}(h:bq c i k=true):k.start.length<=8:=by
 unfold bq at h
 simp only[Bool.and_eq_true,decide_eq_true_eq]at h
 exact h.2.1.2
theorem ci{c:ConM}(h:dx c.con=0):ConShort c:=by
 unfold dx at h
 cases hl:limB c.con with
 |false=>rw[hl,if_neg (by decide)]at h;exact absurd h (by decide)
 |true=>
  rw[hl,if_pos rfl]at h
  unfold limB ConM.con at hl
  simp only[Bool.and_eq_true,decide_eq_true_eq,List.length_map]at hl
  obtain⟨h1,h2,h3,h4,h5,h6⟩:=hl
  have hf:(bJ c.con&&(List.range c.con.cls.length).all (clAt c.con))=true:=by
   cases hb:(bJ c.con&&(List.range c.con.cls.length).all (clAt c.con))with
   |true=>rfl
   |false=>rw[hb]at h;exact absurd h (by decide)
  simp only[Bool.and_eq_true]at hf
  refine⟨h3,h4,h5,h6, ?_,fun k hk=> ?_⟩
  rotate_left
  ·obtain⟨i,hi,e⟩:=List.mem_iff_getElem.1 hk
   have hr:=List.all_eq_true.1 hf.2 i (List.mem_range.2 (by show i<(c.kls.map Prod.fst).length;rw[List.length_map];exact hi))
   have hc:c.con.cls[i]? =some k.1:=by show(c.kls.map Prod.fst)[i]? =_;rw[List.getElem?_map,List.getElem?_eq_getElem hi,e];rfl
   unfold clAt at hr
   rw[hc]at hr
   exact clV_start hr
  have ho:=hf.1
  unfold bJ at ho
  simp only[Bool.and_eq_true]at ho
  have:=offF_len ho.2.2.2
  have hd:c.con.days=c.days:=rfl
  have hoo:c.con.off=c.off:=rfl
  rw[hoo,hd]at this
  omega
end Go.Cv
namespace Go.Proofs.YtekfoaenomgjgaaGreatDoor
open Go.RowKit Go.W32 Go.Blk Go.Cs Go.Lib Go.Opn Go.Mg Go.Cv

theorem info_uc:(Tryz.prog.info? 96).map (fun i=>(i.zero,i.size,i.bytes))=some (some (.agg (cL ⟨⟨#[]⟩,0,0,0,0⟩).toArray),5,48):=by kernel_rfl
theorem info_acc:(Tryz.prog.info? 98).map (fun i=>(i.zero,i.size,i.bytes))=some (some (.agg (cP ⟨0,0,0,0,0,0,0⟩).toArray),7,56):=by kernel_rfl
def ClPost{α:Type}(T:TypeId)(sz:Nat)(enc:α->List Value)(l:List α)(w:World)(e:Ending)(w':World):Prop:=
 ∃A' c',e= .returned (.slice A' l.length c')/\w'.ownsRow w.heap.size T sz (.slice A' l.length c') l.length (l.flatMap enc)/\Below w.heap.size w w'
theorem clI_any(A:Option Addr)(c:Nat)(l:List Int)(w:World)(hl:SL w 1 Cs.encI A l)(hn:l.length<=100000):Calls Tryz.prog 58 #[.slice A l.length c] w (ClPost 3 1 Cs.encI l w):=by
 obtain⟨i,h1,h2,h3,h4⟩:=bG info_i
 exact Cln.clone_any Tryz.cli (ec:=Cs.encI) i _ 1 8 h1 h2 h3 h4 rfl (by decide) Tryz.sizeOf3 (fun _=>rfl) (fun x v hv=>by simp[Cs.encI]at hv;subst hv;rfl) A c l w hl (by unfold maxLen;omega) (by omega)
theorem clU_any(A:Option Addr)(c:Nat)(l:List Un)(w:World)(hl:SL w 5 cL A l)(hn:l.length<=100000):Calls Tryz.prog 59 #[.slice A l.length c] w (ClPost 96 5 cL l w):=by
 obtain⟨i,h1,h2,h3,h4⟩:=bG info_uc
 exact Cln.clone_any Tryz.clu (ec:=cL) i _ 5 48 h1 h2 h3 h4 rfl (by decide) Tryz.sizeOf96 encUn_len gT A c l w hl (by unfold maxLen;omega) (by omega)
theorem clA_any(A:Option Addr)(c:Nat)(l:List AcT)(w:World)(hl:SL w 7 cP A l)(hn:l.length<=100000):Calls Tryz.prog 60 #[.slice A l.length c] w (ClPost 98 7 cP l w):=by
 obtain⟨i,h1,h2,h3,h4⟩:=bG info_acc
 exact Cln.clone_any Tryz.cla (ec:=cP) i _ 7 56 h1 h2 h3 h4 rfl (by decide) Tryz.sizeOf98 encAc_len encAc_one A c l w hl (by unfold maxLen;omega) (by omega)
theorem clK_any(A:Option Addr)(c:Nat)(l:List Kl)(w:World)(hl:SL w 16 aF A l)(hn:l.length<=100000):Calls Tryz.prog 62 #[.slice A l.length c] w (ClPost 45 16 aF l w):=by
 obtain⟨i,h1,h2,h3,h4⟩:=bG info_kl
 exact Cln.clone_any Tryz.clk (ec:=aF) i _ 16 136 h1 h2 h3 h4 rfl (by decide) Tryz.sizeOf45 bP cr A c l w hl (by unfold maxLen;omega) (by omega)
structure ConOw (lo:Nat) (w:World) (c:ConM):Prop where
 h:w.ownsRow lo 3 1 (.slice c.hA c.holders.length c.hc) c.holders.length (c.holders.flatMap Cs.encI)
 u:w.ownsRow lo 96 5 (.slice c.uA c.units.length c.uc) c.units.length (c.units.flatMap cL)
 a:w.ownsRow lo 98 7 (.slice c.aA c.acts.length c.ac) c.acts.length (c.acts.flatMap cP)
 k:w.ownsRow lo 45 16 (.slice c.kA c.kls.length c.kc) c.kls.length (c.kls.flatMap aF)
 o:w.ownsRow lo 3 1 (.slice c.oA c.off.length c.oc) c.off.length (c.off.flatMap Cs.encI)
 st:∀q∈c.kls,w.ownsRow lo 133 2 (.slice q.2.1 q.1.start.length q.2.2) q.1.start.length (q.1.start.flatMap ar)
theorem ConOw.at{lo:Nat}{w:World}{c:ConM}(h:ConOw lo w c):ConAt w c:=
 ⟨aW (fun _=>rfl) h.h,aW encUn_len h.u,aW encAc_len h.a,aW bP h.k,aW (fun _=>rfl) h.o,fun q hq=>aW (fun _=>rfl) (h.st q hq)⟩
theorem bE{α:Type}{w:World}{base sz:Nat}{T:TypeId}{A:Option Addr}{c:Nat}{l:List α}{xs:List Value}(h:w.ownsRow base T sz (.slice A l.length c) l.length xs):l.length<=c/\c<=9223372036854775807:=by
 rcases h.2 with⟨e,e2⟩|⟨g,cap,cur,e,_,_,h1,h2,_⟩
 ·injection e with _ e1 e3
  omega
 ·injection e with _ e1 e3
  unfold maxLen at h2
  omega
theorem ConOw.sz{lo:Nat}{w:World}{c:ConM}(h:ConOw lo w c):ConSz c:=
 ⟨Nat.le_trans (bE h.h).1 (bE h.h).2,Nat.le_trans (bE h.u).1 (bE h.u).2,Nat.le_trans (bE h.a).1 (bE h.a).2,Nat.le_trans (bE h.k).1 (bE h.k).2,Nat.le_trans (bE h.o).1 (bE h.o).2,(bE h.u).1,fun q hq=>Nat.le_trans (bE (h.st q hq)).1 (bE (h.st q hq)).2⟩
theorem ConOw.keep{lo:Nat}{w w':World}{c:ConM}(h:ConOw lo w c)(hk:∀g T,w.heap[g]? =some T->lo<=g->(∃cs t,T= .cells cs t (0,0)/\t≠27)->((.slice c.hA c.holders.length c.hc:Value).ownBlock=some g\/(.slice c.oA c.off.length c.oc:Value).ownBlock=some g\/∃cs t,T= .cells cs t (0,0)/\t≠3/\t≠27)->w'.heap[g]? =w.heap[g]?):ConOw lo w' c:=by
 have key:∀ {sz n:Nat} {T:TypeId} {v:Value} {xs:List Value},w.ownsRow lo T sz v n xs->T≠27->((T=3->∀g,v.ownBlock=some g->(.slice c.hA c.holders.length c.hc:Value).ownBlock=some g\/(.slice c.oA c.off.length c.oc:Value).ownBlock=some g))->w'.ownsRow lo T sz v n xs:=fun {sz n T v xs} hr hT h3=>by
  refine owns_keep hr fun g hg=> ?_
  have hge:=(owns_lt hr hg).1
  rcases hr.2 with⟨rfl,_⟩|⟨g',cap,cur,rfl,_,hg',_⟩
  ·cases hg
  ·have e:g'=g:=Option.some.inj hg
   subst e
   refine hk g' _ hg' hge ⟨_,_,rfl,hT⟩ ?_
   by_cases ht:T=3
   ·rcases h3 ht g' rfl with h|h
    ·exact .inl h
    ·exact .inr (.inl h)
   ·exact .inr (.inr ⟨_,_,rfl,ht,hT⟩)
 exact⟨key h.h (by decide) fun _ g hg=> .inl hg,key h.u (by decide) fun e=>absurd e (by decide),key h.a (by decide) fun e=>absurd e (by decide),key h.k (by decide) fun e=>absurd e (by decide),key h.o (by decide) fun _ g hg=> .inr hg,fun q hq=>key (h.st q hq) (by decide) fun e=>absurd e (by decide)⟩
theorem ConOw.keepAll{lo:Nat}{w w':World}{c:ConM}(h:ConOw lo w c)(hk:∀g,lo<=g->g<w.heap.size->w'.heap[g]? =w.heap[g]?):ConOw lo w' c:=
 h.keep fun g _ hg hl _ _=>hk g hl (Array.getElem?_eq_some_iff.1 hg).1
theorem ConOw.mono{lo lo':Nat}{w:World}{c:ConM}(h:ConOw lo w c)(hl:lo'<=lo):ConOw lo' w c:=
 ⟨ap h.h hl,ap h.u hl,ap h.a hl,ap h.k hl,ap h.o hl,fun q hq=>ap (h.st q hq) hl⟩
def ConM.withK(c:ConM)(kls:List Kl)(A:Option Addr)(k:Nat):ConM:= {c with kls:=kls,kA:=A,kc:=k}
def ConM.withHU(c:ConM)(x y:Option Addr×Nat):ConM:= {c with hA:=x.1,hc:=x.2,uA:=y.1,uc:=y.2}
def ConM.withAO(c:ConM)(x y:Option Addr×Nat):ConM:= {c with aA:=x.1,ac:=x.2,oA:=y.1,oc:=y.2}
theorem set_K(c:ConM)(kls:List Kl)(A:Option Addr)(k:Nat):(ak c).set 4 (.slice A kls.length k)=ak (ConM.withK c kls A k):=rfl
theorem gy{w:World}{b:Nat}{T:TypeId}{cs:List Value}(h:Row w b T cs)(i j:Nat)(u v:Value):Row ((w.setCell ⟨b,i,none⟩ u).setCell ⟨b,j,none⟩ v) b T ((cs.set i u).set j v):=
 Blk.Blk.set (Blk.Blk.set h i u) j v
theorem gH{w:World}{b g:Nat}{T:TypeId}{cs:List Value}(h:Row w g T cs)(hn:b≠g)(i j:Nat)(u v:Value):Row ((w.setCell ⟨b,i,none⟩ u).setCell ⟨b,j,none⟩ v) g T cs:=
 Blk.Blk.set_ne (Blk.Blk.set_ne h (a:=⟨b,i,none⟩) hn u) (a:=⟨b,j,none⟩) hn v
end Go.Proofs.YtekfoaenomgjgaaGreatDoor
