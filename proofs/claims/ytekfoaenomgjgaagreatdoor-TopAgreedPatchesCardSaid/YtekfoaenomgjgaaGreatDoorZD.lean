/- Package version: the amendments that count, as an iterator. Condition: the amendments lie in memory. -/
import Derived.Test.YtekfoaenomgjgaaGreatDoorFree
import Derived.OrdersIn
import Derived.RangeFuncCalls
import Derived.Laws.Tables
import Derived.Test.YtekfoaenomgjgaaGreatDoorZ1
import Derived.RangeFuncNested
import Derived.RangeFuncBound
import Derived.RangeFuncLeaves
import Derived.Shelf.Abstract
import Derived.Shelf.RegionOpen
import Derived.WalkKit
import Derived.OwnWalkIn
import Derived.TacticsInMore
import Derived.LoopNIn
import Derived.LoopIn
import Derived.Test.YtekfoaenomgjgaaGreatDoorYB
import Derived.StillTail
import Derived.Test.YtekfoaenomgjgaaGreatDoorZC
set_option linter.all false
set_option maxRecDepth 100000
namespace Go.Free
open Go Go.RowKit

def noDef(ops:Array Oper):Bool:=ops.all fun o=>match o.op with
 | .defer _=>false
 |_=>true
theorem noDef_at{ops:Array Oper}(h:noDef ops=true){i:Nat}{o:Oper}(ho:ops[i]? =some o):∀c,o.op≠ .defer c:=by
 intro c hc
 unfold noDef at h
 rw[Array.all_eq_true]at h
 obtain⟨hi,rfl⟩:=Array.getElem?_eq_some_iff.1 ho
 have:=h i hi
 rw[hc]at this
 cases this
section
variable {P:Program} {l0 m:Nat}
theorem rows_in{row:String}{args:Array Value}{w:World}{R:Value->World->Prop}(h:Rows P row args w R):RowsIn (Fence.wide.inRound l0) m P row args w R:=
 fun c cs _=>let ⟨v,w',r,s⟩:=h c cs;⟨v,w',r,stepsIn_wide.2 s⟩
theorem calls_in{f:FuncId}{args:Array Value}{w:World}{R:Ending->World->Prop}(h:Calls P f args w R):CallsIn (Fence.wide.inRound l0) m P f args w R:=
 CallsIn.inRound l0 (callsIn_wide.2 h)
theorem op_in{o:Oper}{a:Act}{w:World}{next next':Act->World->Prop}{Q:Exit->Act->World->Prop}(hd:∀c,o.op≠ .defer c)(hn:∀a w,next a w->next' a w)(h:o.wp P a w next Q):
  o.wpIn (Fence.wide.inRound l0) m P a w next' Q:=by
 refine⟨fun _ _=>trivial, ?_⟩
 rw[Fence.inRound_round,Oper.semAt_some _ _ _ hd]
 unfold Oper.wp at h
 generalize (execOp a.eval o).run P w=r at h⊢
 cases r with
 |halt x w'=>cases x<;>first|exact h|exact h.elim
 |ok x w'=>
  cases x with
  |value v=>exact hn _ _ h
  |skip=>exact hn _ _ h
  |defer d=>exact hn _ _ h
  |enter f args=>
   refine⟨fun e=>by simp[Fence.inRound,Fence.wide]at e,calls_in (Calls.mono h ?_)⟩
   intro e w2 he
   cases e<;>first|exact hn _ _ he|exact he
  |row r args=>
   refine⟨fun e=>by simp[Fence.inRound,Fence.wide]at e,rows_in (Rows.mono h ?_)⟩
   intro e w2 he
   exact hn _ _ he
  |_=>exact h.elim
end
section
variable {P:Program}
theorem listIn_plain{l0 m:Nat}{ops:Array Oper}{Q:Exit->Act->World->Prop}{a:Act}{w:World}{o:Oper}{rest:List Oper}(hg:o.guard=none)(hd:∀c,o.op≠ .defer c)
  (h:o.wp P a w (wpListIn (Fence.wide.inRound l0) m P ops Q rest) Q):wpListIn (Fence.wide.inRound l0) m P ops Q (o::rest) a w:=by
 unfold wpListIn
 rw[if_pos (by simp[Region.wanted,hg])]
 exact op_in hd (fun _ _ h=>h) h
theorem listIn_store_row{l0 m:Nat}{ops:Array Oper}{rest:List Oper}{o:Oper}{a:Act}{w:World}{Q:Exit->Act->World->Prop}(hgd:o.guard=none)(ty:TypeId)(x y:Operand)(ho:o.op= .store ty x y)
  (g:Nat) (cells:Array Value) (hx:a.eval x= .pointer (some ⟨g,0,none⟩)) (hy:a.eval y= .agg cells)
  (t:TypeId) (old:Array Value) (hg:w.heap[g]? =some (.cells old t (0,0))) (hi:(P.info? ty).map (·.size)=some cells.size)
  (hold:old.size=cells.size) (h1:cells.all (·.oneCell')=true)
  (h:wpListIn (Fence.wide.inRound l0) m P ops Q rest (a.put o.dst undef) (w.setRow g cells)):wpListIn (Fence.wide.inRound l0) m P ops Q (o::rest) a w:=
 listIn_plain hgd (by rw[ho];exact fun c hc=>by cases hc) (wp_store_row ty x y ho g cells hx hy t old hg hi hold h1 h)
end
end Go.Free
namespace Go.Rf
open Go Go.RowKit

theorem grown_of{w w':World}(h:Below w.heap.size w w'):w.grownBy w' none:=⟨h.os,h.tape,h.output,h.size,fun k hk _=>h.block k hk⟩
theorem abide{β:Type}{B:Nat}{J:β->World->Prop}(hJ:AbidesFrom B J){s:β}{w w':World}(h:J s w)(hb:Below w.heap.size w w'):J s w':=
 hJ s w w' none h (grown_of hb) (fun _ e=>by cases e)
theorem keeps_of{w w':World}(h:Below w.heap.size w w'):KeepsOthers w w':=⟨h.size,fun k _ hk _=>(h.block k (Array.getElem?_eq_some_iff.1 hk).1).trans hk⟩
theorem calls_marks{P:Program}{f:FuncId}{fn:Func}{c:Code}{args:Array Value}{w:World}{R:Ending->World->Prop}(n:Nat)
  (hf:P.funcs[f]? =some fn) (hb:fn.body=some c) (h:c.wp P (bodyPostM Fence.wide n P fn R) {tmps:=args++Array.replicate (fn.ntmps-args.size) undef,defers:= []} w):Calls P f args w R:=
 (callsIn_wide (n:=n)).1 (callsIn_of_wp_marks hf hb trivial (wpIn_wide.2 h) rfl)
end Go.Rf
namespace Go.Rf
open Go Go.RowKit Go.Opn
def obAt(b:Nat)(w:World):Option Nat:=match w.cell? ⟨b,0,none⟩with
 |some (.slice (some a) _ _)=>some a.block
 |_=>none
structure KpX (X:Nat->Prop) (b:Nat) (w w':World):Prop where
 size:w.heap.size<=w'.heap.size
 keep:∀k,k<w.heap.size->(∃c t f,w.heap[k]? =some (.cells c t f))-> ¬X k->obAt b w≠some k->w'.heap[k]? =w.heap[k]?
 own:obAt b w'=obAt b w\/∃k,obAt b w'=some k/\w.heap.size<=k
variable {X:Nat->Prop} {b:Nat}
theorem KpX.refl(w:World):KpX X b w w:=⟨Nat.le_refl _,fun _ _ _ _ _=>rfl, .inl rfl⟩
theorem KpX.trans{u v w:World}(h:KpX X b u v)(g:KpX X b v w):KpX X b u w:=by
 refine⟨Nat.le_trans h.size g.size,fun k hk hc hX ho=> ?_, ?_⟩
 ·have e1:=h.keep k hk hc hX ho
  rw[g.keep k (Nat.lt_of_lt_of_le hk h.size) (by rw[e1];exact hc) hX ?_,e1]
  rcases h.own with e|⟨j,e,hj⟩
  ·rw[e];exact ho
  ·rw[e];intro e2;injection e2 with e2;omega
 ·rcases g.own with e|⟨j,e,hj⟩
  ·rw[e];exact h.own
  ·exact .inr ⟨j,e,Nat.le_trans h.size hj⟩
theorem cells_of{w:World}{a:Addr}{v:Value}(h:w.cell? a=some v):∃c t f,w.heap[a.block]? =some (.cells c t f):=by
 unfold World.cell? at h
 split at h
 ·rename_i c t f e;exact⟨c,t,f,e⟩
 ·cases h
theorem eX{w w':World}(h:w'.heap[b]? =w.heap[b]?):obAt b w'=obAt b w:=by
 unfold obAt
 rw[World.cell?_of_block (a:=⟨b,0,none⟩) h]
theorem KpX.book(W:World)(l:Nat)(o o':Obj)(hl:l≠b)(ho:W.heap[l]? =some o)(hc:o.isCells=false):KpX X b W (W.putObj l o'):=by
 have hsz:(W.putObj l o').heap.size=W.heap.size:=by simp[World.putObj]
 refine⟨by omega,fun k _ h _ _=>World.putObj_heap_other (fun e2=> ?_), .inl (eX (World.putObj_heap_other (Ne.symm hl)))⟩
 obtain⟨c,t,f,e⟩:=h
 subst e2
 rw[e]at ho;cases ho;cases hc
theorem KpX.below{w w':World}(h:Below w.heap.size w w')(hb:b<w.heap.size):KpX X b w w':=
 ⟨h.size,fun k hk _ _ _=>h.block k hk, .inl (eX (h.block b hb))⟩
theorem sl_keepB{α:Type}{w w':World}{sz:Nat}{enc:α->List Value}{A:Option Addr}{es:List α}(h:SL w sz enc A es)(hk:∀k,A.map (·.block)=some k->w'.heap[k]? =w.heap[k]?):SL w' sz enc A es:=
 ⟨fun hn=>by
  obtain⟨c,off,hA,hc⟩:=h.cells hn
  exact⟨c,off,hA,fun i e hi p u hu=>by rw[World.cell?_of_block (a:=⟨c,off+(i*sz+p),none⟩) (hk c (by rw[hA];rfl))];exact hc i e hi p u hu⟩⟩
end Go.Rf
namespace Go.Free
open Go Go.RowKit

section
variable {P:Program} {m:Nat}
theorem op_F{F:Fence}(hF:F=Fence.wide\/∃l0,F=Fence.wide.inRound l0){o:Oper}{a:Act}{w:World}{next next':Act->World->Prop}{Q:Exit->Act->World->Prop}(hd:∀c,o.op≠ .defer c)(hn:∀a w,next a w->next' a w)
  (h:o.wp P a w next (fun _ _ _=>False)):o.wpIn F m P a w next' Q:=by
 have hs:Oper.semAt F.round a.eval o=execOp a.eval o:=Oper.semAt_eq _ _ _ hd
 have hdep:F.depth=none:=by rcases hF with rfl|⟨l0,rfl⟩<;>rfl
 have hfn:∀f,F.fn f:=by rcases hF with rfl|⟨l0,rfl⟩<;>exact fun _=>trivial
 have hcall:∀ {f:FuncId} {args:Array Value} {w:World} {R:Ending->World->Prop},Calls P f args w R->CallsIn F (m-1) P f args w R:=by
  rcases hF with rfl|⟨l0,rfl⟩
  ·exact fun h=>callsIn_wide.2 h
  ·exact fun h=>calls_in h
 have hrow:∀ {row:String} {args:Array Value} {w:World} {R:Value->World->Prop},Rows P row args w R->RowsIn F (m-1) P row args w R:=by
  rcases hF with rfl|⟨l0,rfl⟩
  ·exact fun h c cs _=>let ⟨v,w',r,s⟩:=h c cs;⟨v,w',r,stepsIn_wide.2 s⟩
  ·exact fun h=>rows_in h
 refine⟨fun _ _=>hfn _, ?_⟩
 rw[hs]
 unfold Oper.wp at h
 generalize (execOp a.eval o).run P w=r at h⊢
 cases r with
 |halt x w'=>cases x<;>exact h.elim
 |ok x w'=>
  cases x with
  |value v=>exact hn _ _ h
  |skip=>exact hn _ _ h
  |defer d=>exact hn _ _ h
  |enter f args=>
   refine⟨fun e=>(by rw[hdep]at e;cases e),hcall (Calls.mono h ?_)⟩
   intro e w2 he
   cases e with
   |returned v=>exact hn _ _ he
   |panicked ch=>exact he.elim
   |outgrown=>obtain⟨_,_,h⟩:=he;exact h.elim
  |row r args=>
   refine⟨fun e=>(by rw[hdep]at e;cases e),hrow (Rows.mono h ?_)⟩
   intro e w2 he
   exact hn _ _ he
  |_=>exact h.elim
theorem opIn_F{F:Fence}(hF:F=Fence.wide\/∃l0,F=Fence.wide.inRound l0){ops:Array Oper}{i:Nat}(hd:∀o,ops[i]? =some o->∀c,o.op≠ .defer c){K K':Act->World->Prop}{Q:Exit->Act->World->Prop}{a:Act}{w:World}(hn:∀a w,K a w->K' a w)
  (h:wpOp P ops (fun _ _ _=>False) i K a w):wpOpIn F m P ops Q i K' a w:=by
 have hfn:∀f,F.fn f:=by rcases hF with rfl|⟨l0,rfl⟩<;>exact fun _=>trivial
 unfold wpOp at h
 unfold wpOpIn
 cases ho:ops[i]? with
 |none=>rw[ho]at h;exact hn _ _ h
 |some o=>
  rw[ho]at h
  dsimp only at h⊢
  split at h
  ·rename_i hw
   rw[if_pos hw]
   rcases h with h|⟨_,a2,w2,hl⟩
   ·exact op_F hF (hd o ho) hn h
   ·exact hl.elim
  ·rename_i hw
   rw[if_neg hw]
   exact⟨fun _ _=>hfn _,hn _ _ h⟩
theorem wpOpIn_mono'{F:Fence}{ops:Array Oper}{Q:Exit->Act->World->Prop}{i:Nat}{a:Act}{w:World}{K K':Act->World->Prop}(h:∀a w,K a w->K' a w)(hh:wpOpIn F m P ops Q i K a w):wpOpIn F m P ops Q i K' a w:=wpOpIn_mono h hh
theorem gt{F:Fence}{md:Region.Mode}{ops:Array Oper}{Q:Exit->Act->World->Prop}:∀(l:List Oper) (k:Nat) (listed:Array Bool) (a:Act) (w:World),(∀j,l[j]? =ops[k+j]?)->
  Region.seqB md ops l.length k listed=true->wpListIn F m P ops Q l a w->wpAnyIn F m P md ops Q l.length listed a w
 | [],_,_,_,_,_,hB,h=>⟨by simpa[Region.seqB]using hB,h⟩
 |o::l,k,listed,a,w,hl,hB,h=>by
  have h0:ops[k]? =some o:=by simpa using(hl 0).symm
  simp only[List.length_cons,Region.seqB,Bool.and_eq_true,decide_eq_true_eq]at hB
  refine⟨fun h1=>(by rw[hB.1]at h1;cases h1),fun i hi=> ?_⟩
  rw[hB.1]at hi
  have hik:i=k:=by simpa using hi
  subst hik
  have hw:wpOpIn F m P ops Q i (wpListIn F m P ops Q l) a w:=by unfold wpOpIn;simp only[h0];exact h
  exact wpOpIn_mono' (fun a' w' h'=>gt l (i+1) _ a' w' (fun j=>by have:=hl (j+1);simpa[Nat.add_assoc,Nat.add_comm 1 j]using this) hB.2 h') hw
end
section
variable {P:Program} {ops:Array Oper} {b:Array Nat} {Rs:List (Nat×Loud)} {B:World->Prop} {a0:Act}
theorem region_freeT{F:Fence}(hF:F=Fence.wide\/∃l0,F=Fence.wide.inRound l0){N:Nat}{n:Nat}{w0:World}{Q:Exit->Act->World->Prop}(ok:OK ops n b)(hnd:∀i,i<n->∀o,ops[i]? =some o->∀c,o.op≠ .defer c)(hmono:LoudMono Rs)(hBm:∀w w',B w->Grow w w'->B w')
  (hall:∀u,∃v,(∀j,j<n->StepT P ops b Rs B a0 n u v j)/\(∀w,B w->Grow w0 w->(∀p∈hist ops Rs a0 n u v n,p.2 w)->wpListIn F N P ops Q (ops.toList.drop n) (frm ops a0 v (fun i=>decide (i<n)) n) w)):
  ∀(m:Nat) (listed:Array Bool) (a:Act) (w:World),left listed n=m->(∃u v,J P ops b Rs B a0 n w0 u v listed a w)->wpAnyIn F N P .any ops Q (m+(ops.size-n)) listed a w:=by
 intro m
 induction m with
 |zero=>
  rintro listed a w hm ⟨u,v,hJ⟩
  have hl:∀j,j<n->listed.getD j false=true:=by
   intro j hj
   have:=List.countP_eq_zero.1 hm j (by simpa using hj)
   simpa using this
  have e:listed=Array.replicate n true++Array.replicate (ops.size-n) false:=by
   apply Array.ext
   ·rw[hJ.inv.size];simp;have:=ok.le;omega
   ·intro i h1 h2
    by_cases hi:i<n
    ·have:=hl i hi
     simp[h1]at this
     rw[this,Array.getElem_append_left (by simpa using hi)];simp
    ·have:=hJ.inv.tail i (by omega) (by rw[<-hJ.inv.size];exact h1)
     simp[h1]at this
     rw[this,Array.getElem_append_right (by simp;omega)];simp
  obtain⟨v',tr',hfin⟩:=hall u
  have hva:=vals_alike ok hJ.inv hJ.bw hJ.tr tr' (fun _ _=>rfl) hJ.facts
  have ef:a=frm ops a0 v' (fun i=>decide (i<n)) n:=by
   rw[hJ.fr]
   refine dg (by rw[aI,aI]) (by rw[aS,aS]) (fun t=>aZ _ _ _ _ t n (fun j hj _=>⟨by rw[hl j hj];simp[hj],fun _=>(hva j hj (hl j hj)).1⟩))
  have hw:=hfin w hJ.bw hJ.gw (fun p hp=>by
   obtain⟨h1,mk,r,hf,hwt,h2⟩:=hist_mem hp
   rw[h2]
   exact hJ.facts p.1 h1 (hl p.1 h1) mk r hf (by rw[(hva p.1 h1 (hl p.1 h1)).2];exact hwt))
  rw[<-ef]at hw
  have hlen:(ops.toList.drop n).length=ops.size-n:=by simp
  have:=gt (md:= .any) (ops.toList.drop n) n listed a w (fun j=>by simp[List.getElem?_drop]) (by rw[hlen,e];exact ok.seq) hw
  rw[hlen]at this
  rw[Nat.zero_add];exact this
 |succ m ih=>
  rintro listed a w hm ⟨u,v,hJ⟩
  rw[show m+1+(ops.size-n)=(m+(ops.size-n))+1 by omega]
  refine⟨fun hnil=> ?_,fun i hi=> ?_⟩
  ·exfalso
   have hex:∃k,k<n/\listed.getD k false=false/\∀j,j<k->listed.getD j false=true:=by
    have:∀N,N<=n->(∀j,j<N->listed.getD j false=true)\/∃k,k<n/\listed.getD k false=false/\∀j,j<k->listed.getD j false=true:=by
     intro N
     induction N with
     |zero=>intro _;left;intro j hj;omega
     |succ N ihN=>
      intro hN
      rcases ihN (by omega)with h|h
      ·cases hl:listed.getD N false with
       |false=>right;exact⟨N,by omega,hl,h⟩
       |true=>
         left;intro j hj;by_cases e:j=N
         ·subst e;exact hl
         ·exact h j (by omega)
      ·exact .inr h
    rcases this n (Nat.le_refl _)with h|h
    ·have:left listed n=0:=List.countP_eq_zero.2 (fun j hj=>by have:=h j (by simpa using hj);simp at this⊢;exact this)
     omega
    ·exact h
   obtain⟨k,hk,hkl,hlow⟩:=hex
   have hks:k<ops.size:=by have:=ok.le;omega
   have:k∈Region.ready .any ops listed:=mem_ready.2 ⟨getD_in (by rw[hJ.inv.size];exact hks) hkl,_,bj hks,fun e he hb=>hlow e.on (ok.edge k hks e he hb).1⟩
   rw[hnil]at this;cases this
  ·have hin:i<n:=by
    rcases Nat.lt_or_ge i n with h|h
    ·exact h
    ·exfalso
     obtain⟨_,o,ho,_⟩:=mem_ready.1 hi
     have his:i<ops.size:=(Array.getElem?_eq_some_iff.1 ho).1
     have:left listed n=0:=List.countP_eq_zero.2 (fun j hj=>by
      have hjn:j<n:=by simpa using hj
      have:=aM ok hJ.inv hi (by omega) (ok.tail i j h his hjn)
      simp at this⊢;exact this)
     omega
   obtain⟨hul,o,ho,_⟩:=mem_ready.1 hi
   have his:i<ops.size:=(Array.getElem?_eq_some_iff.1 ho).1
   have hls:i<listed.size:=by rw[hJ.inv.size];exact his
   have hc:left (listed.setIfInBounds i true) n=m:=by have:=cD (n:=n) hin hls (getD_both hul);omega
   exact opIn_F hF (hnd i hin) (fun a' w' h=>ih _ a' w' hc h) (J_step ok hmono hBm (fun u=>let ⟨v,h,_⟩:=hall u;⟨v,h⟩) hJ hin hi)
end
section
variable {P:Program}
theorem wpIn_region_freeT{F:Fence}(hF:F=Fence.wide\/∃l0,F=Fence.wide.inRound l0){N id:Nat}{Q:Exit->Act->World->Prop}{a:Act}{w:World}{l:List Oper}(n:Nat)(Rs:List (Nat×Loud))(B:World->Prop)
  (hm:P.follows .mixedOrders=true) (hok:fh l.toArray n=true) (hnd:noDef (l.take n).toArray=true) (hmono:LoudMono Rs) (hB0:B w.drew) (hBm:∀w w',B w->Grow w w'->B w')
  (h:chain P l.toArray (Region.before l.toArray) Rs B (fun a' hs=> ∀w',B w'->Grow w.drew w'->(∀p∈hs,p.2 w')->wpListIn F N P l.toArray Q (l.drop n) a' w') (l.take n) 0 a []):
  (Code.region id l.toArray true).wpIn F N P Q a w:=by
 have ok:=OK.of hok
 have hle:n<=l.length:=by simpa using ok.le
 have hall:∀u,∃v,(∀j,j<n->StepT P l.toArray (Region.before l.toArray) Rs B a n u v j)/\(∀w',B w'->Grow w.drew w'->(∀p∈hist l.toArray Rs a n u v n,p.2 w')->wpListIn F N P l.toArray Q (l.toArray.toList.drop n) (frm l.toArray a v (fun i=>decide (i<n)) n) w'):=by
  intro u
  have e0:frm l.toArray a (fun _=>undef) (fun i=>decide (i<0)) n=a:=by
   rw[bC _ 0 n (by omega)];rfl
  exact chain_out ok.le u (l.take n) 0 (fun _=>undef) (by simp;omega) (fun j hj=>by
   have:j<n:=by simp at hj;omega
   simp[this]) (fun j hj=>by omega) (by rw[e0];exact h)
 refine wpIn_region_any hm ?_
 have inv0:HeadInv .any l.toArray n (Array.replicate l.toArray.size false):=
  ⟨by simp,fun j oj _ hl=>(by rw[getD_replicate_false]at hl;cases hl),fun t _ ht=>getD_in (by simpa using ht) (getD_replicate_false _ _)⟩
 obtain⟨v,tr,_⟩:=hall (fun _=>0)
 have hleft:left (Array.replicate l.toArray.size false) n=n:=by
  unfold left
  have:(List.range n).countP (fun j=> !(Array.replicate l.toArray.size false).getD j false)=(List.range n).length:=List.countP_eq_length.2 (fun j _=>by rw[getD_replicate_false];rfl)
  rw[this];simp
 have J0:J P l.toArray (Region.before l.toArray) Rs B a n w.drew (fun _=>0) v (Array.replicate l.toArray.size false) a w.drew:=by
  refine⟨inv0,tr, ?_,hB0,Grow.refl _,fun j hj hl=>(by rw[getD_replicate_false]at hl;cases hl)⟩
  have:(fun j=>(Array.replicate l.toArray.size false).getD j false)=fun i=>decide (i<0):=by funext j;rw[getD_replicate_false];simp
  rw[this,bC _ 0 n (by omega)];rfl
 have hndi:∀i,i<n->∀o,l.toArray[i]? =some o->∀c,o.op≠ .defer c:=fun i hi o ho=>noDef_at (ops:=(l.take n).toArray) hnd (i:=i) (by simpa[List.getElem?_take,hi]using ho)
 have:=region_freeT (w0:=w.drew) (Q:=Q) (N:=N) hF ok hndi hmono hBm hall n _ a w.drew hleft ⟨_,v,J0⟩
 rw[show n+(l.toArray.size-n)=l.toArray.size by simp;omega]at this
 exact this
end
end Go.Free
namespace Go.Proofs.YtekfoaenomgjgaaGreatDoor
open Go.RowKit Go.W32 Go.Blk Go.Cs Go.Lib Go.Opn Go.Mg Go.Rf
attribute [local go_sem] Oper.semAt_some
abbrev AmIn (am:List (Pr×Hd)):= {x:Pr×Hd // x∈am}
def dV{am:List (Pr×Hd)}(l:List (AmIn am)):List (Pr×Hd):=l.map (·.1)
theorem dz{am:List (Pr×Hd)}(l:List (AmIn am))(x:AmIn am):dV (l++ [x])=dV l++ [x.1]:=by simp[dV]
theorem valsA_len{am:List (Pr×Hd)}(l:List (AmIn am)):(dV l).length=l.length:=by simp[dV]
abbrev encA1 {am:List (Pr×Hd)} (x:AmIn am):Array Value:= #[.agg (bH x.1).toArray]
def bi(kn:Int)(pl:List Pl):List (Pr×Hd):=(pl.map (·.1)).filter fun x=>decide (x.1.known<=kn)
def Ord(am:List (Pr×Hd))(pl:List Pl):Prop:=pl.Perm (pls am)/\pl.Pairwise (fun a b=> ¬b.lt a)
theorem counting_any(A:Option Addr)(c n:Nat)(kn:Int)(w:World):
  Calls Tryz.prog 27 #[.slice A n c, .int .i64 kn] w fun e w'=>e= .returned (.func (.func 64) #[] #[.pointer (some ⟨w.heap.size,0,none⟩), .pointer (some ⟨w.heap.size+1,0,none⟩)])/\w'=(w.alloc (.cells #[.slice A n c] 35)).alloc (.cells #[.int .i64 kn] 3):=by
 have hmf:∀(fn:Fn) (first cap:Array Value) (w:World),(Instr.makeFunc fn first cap).run Tryz.prog w= .ok (.func fn first cap) w:=fun _ _ _ _=>rfl
 go_enter Tryz.func27,Tryz.ntmps27
 go_wp2_with fail
 go_ret
 exact⟨rfl,rfl⟩
structure CtIs (X:Nat->Prop) (b b1 b2:Nat) (A:Option Addr) (c:Nat) (am:List (Pr×Hd)) (kn:Int) (w:World):Prop where
 c1:w.cell? ⟨b1,0,none⟩=some (.slice A am.length c)
 c2:w.cell? ⟨b2,0,none⟩=some (.int .i64 kn)
 sl:SL w 22 bH A am
 x1: ¬X b1/\obAt b w≠some b1
 x2: ¬X b2/\obAt b w≠some b2
 xb:b<w.heap.size
 xA:am≠ []->∀k,A.map (·.block)=some k->k<w.heap.size/\(∃c t f,w.heap[k]? =some (.cells c t f))/\ ¬X k/\obAt b w≠some k
theorem ob_same{X:Nat->Prop}{b k:Nat}{w w':World}(h:KpX X b w w')(hk:k<w.heap.size)(ho:obAt b w≠some k):obAt b w'≠some k:=by
 rcases h.own with e|⟨j,e,hj⟩
 ·rw[e];exact ho
 ·rw[e];intro e2;injection e2 with e2;omega
theorem CtIs.keep{X:Nat->Prop}{b b1 b2:Nat}{A:Option Addr}{c:Nat}{am:List (Pr×Hd)}{kn:Int}{w w':World}(h:CtIs X b b1 b2 A c am kn w)(hk:KpX X b w w'):CtIs X b b1 b2 A c am kn w':=by
 have l1:=World.block_lt_of_cell? w _ h.c1
 have l2:=World.block_lt_of_cell? w _ h.c2
 refine⟨?_, ?_, ?_,⟨h.x1.1,ob_same hk l1 h.x1.2⟩,⟨h.x2.1,ob_same hk l2 h.x2.2⟩,Nat.lt_of_lt_of_le h.xb hk.size,fun hne k e=> ?_⟩
 ·rw[World.cell?_of_block (a:=⟨b1,0,none⟩) (hk.keep b1 l1 (cells_of h.c1) h.x1.1 h.x1.2)];exact h.c1
 ·rw[World.cell?_of_block (a:=⟨b2,0,none⟩) (hk.keep b2 l2 (cells_of h.c2) h.x2.1 h.x2.2)];exact h.c2
 ·by_cases hne:am= []
  ·rw[hne];exact SL.nil
  ·refine sl_keepB h.sl fun k e=> ?_
   obtain⟨q1,q2,q3,q4⟩:=h.xA hne k e
   exact hk.keep k q1 q2 q3 q4
 ·obtain⟨q1,q2,q3,q4⟩:=h.xA hne k e
  exact⟨Nat.lt_of_lt_of_le q1 hk.size,by rw[hk.keep k q1 q2 q3 q4];exact q2,q3,ob_same hk q1 q4⟩
structure OrdI (X:Nat->Prop) (b:Nat) (A:Option Addr) (pl:List Pl) (w:World):Prop where
 sl:SL w 1 Cs.encI A (pl.map (·.2))
 off:∀k,A.map (·.block)=some k->k<w.heap.size/\(∃c t f,w.heap[k]? =some (.cells c t f))/\ ¬X k/\obAt b w≠some k
theorem OrdI.keep{X:Nat->Prop}{b:Nat}{A:Option Addr}{pl:List Pl}{w w':World}(h:OrdI X b A pl w)(hk:KpX X b w w'):OrdI X b A pl w':=
 ⟨sl_keepB h.sl fun k e=>by
  obtain⟨q1,q2,q3,q4⟩:=h.off k e
  exact hk.keep k q1 q2 q3 q4,fun k e=>by
  obtain⟨q1,q2,q3,q4⟩:=h.off k e
  exact⟨Nat.lt_of_lt_of_le q1 hk.size,by rw[hk.keep k q1 q2 q3 q4];exact q2,q3,ob_same hk q1 q4⟩⟩
theorem pls_mem{l:List (Pr×Hd)}{x:Pl}(h:x∈pls l):∃i:Nat,x.2=(i:Int)/\l[i]? =some x.1:=by
 obtain⟨p,hp,rfl⟩:=List.mem_map.1 h
 exact⟨p.2,rfl,by have:=List.mem_zipIdx hp;simp at this;rw[List.getElem?_eq_getElem this.1];simp[this.2]⟩
theorem knownL_take{kn:Int}{pl:List Pl}{k:Nat}{x:Pl}(h:pl[k]? =some x):bi kn (pl.take (k+1))=if x.1.1.known<=kn then bi kn (pl.take k)++ [x.1]else bi kn (pl.take k):=by
 unfold bi
 rw[List.take_add_one,h,Option.toList_some,List.map_append,List.filter_append]
 by_cases hx:x.1.1.known<=kn<;>simp[hx]
theorem knownL_len(kn:Int)(pl:List Pl)(k:Nat):(bi kn (pl.take k)).length<=k:=by
 unfold bi
 refine Nat.le_trans (List.length_filter_le _ _) ?_
 rw[List.length_map,List.length_take];omega
theorem knownL_prefix(kn:Int)(pl:List Pl)(k:Nat):bi kn (pl.take k) <+:bi kn pl:=by
 unfold bi
 exact List.IsPrefix.filter _ ((List.take_prefix k pl).map _)
theorem listIn_skip{m:Nat}{P:Program}{ops:Array Oper}{Q:Exit->Act->World->Prop}{a:Act}{w:World}{o:Oper}{rest:List Oper}(h:Region.wanted o (yielded ops a.tmps)=false)
  (k:wpListIn Fence.wide m P ops Q rest (a.put o.dst undef) w):wpListIn Fence.wide m P ops Q (o::rest) a w:=by
 unfold wpListIn
 rw[if_neg (by simp[h])]
 exact⟨fun _ _=>trivial,k⟩
set_option maxHeartbeats 2000000 in
theorem count1_in(n:Nat)(hn:1<=n)(l b b1 b2:Nat)(X:Nat->Prop)(A:Option Addr)(c:Nat)(am:List (Pr×Hd))(kn:Int)(ham:am.length<=4000)(J Jx:List (AmIn am)->World->Prop)(B:Nat)(hJ:AbidesFrom B J)
  (hY:∀pre x W,J pre W->pre.length<am.length->YieldAt Fence.wide (n-1) Tryz.prog l (encA1 x) W fun e W'=>
   (e= .returned (.bool true)/\J (pre++ [x]) W'/\KpX X b W W')\/(e= .returned (.bool false)/\Jx (pre++ [x]) W'))
  (W:World) (hb:b<W.heap.size) (hX:∀k,X k->k<W.heap.size) (hob:obAt b W=none) (hC:CtIs X b b1 b2 A c am kn W) (h0:J [] W):
  CallsIn Fence.wide n Tryz.prog 64 #[.func (.yield l) #[] #[], .pointer (some ⟨b1,0,none⟩), .pointer (some ⟨b2,0,none⟩)] W fun e W'=>(∃v,e= .returned v)/\
   ((∃ys:List (AmIn am),(∃pl,Ord am pl/\dV ys=bi kn pl)/\J ys W')\/(∃pre:List (AmIn am),(∃pl,Ord am pl/\dV pre <+:bi kn pl)/\Jx pre W')):=by
 obtain⟨R,eR⟩:∃R:Ending->World->Prop,R=fun e W'=>(∃v,e= .returned v)/\((∃ys:List (AmIn am),(∃pl,Ord am pl/\dV ys=bi kn pl)/\J ys W')\/(∃pre:List (AmIn am),(∃pl,Ord am pl/\dV pre <+:bi kn pl)/\Jx pre W')):=⟨_,rfl⟩
 rw[<-eR]
 have FA:Hid (∀v W' pl ys,Ord am pl->dV ys=bi kn pl->J ys W'->R (.returned v) W'):=h_ fun v W' pl ys ho hv h=>by rw[eR];exact⟨⟨_,rfl⟩, .inl ⟨ys,⟨pl,ho,hv⟩,h⟩⟩
 have FB:Hid (∀v W' pl pre,Ord am pl->dV pre <+:bi kn pl->Jx pre W'->R (.returned v) W'):=h_ fun v W' pl pre ho hp h=>by rw[eR];exact⟨⟨_,rfl⟩, .inr ⟨_,⟨pl,ho,hp⟩,h⟩⟩
 clear eR
 have H0:=h_ h0
 have HY:=h_ hY
 have HC:=h_ hC
 have HX:=h_ hX
 have HOB:=h_ hob
 have HBW:=h_ hb
 have c1:=hC.c1
 have CO:=h_ (or2_any A c am W hC.sl ham)
 clear h0 hY hC hX hob hb
 refine callsIn_of_wp Tryz.func64 rfl trivial ?_ rfl
 simp only[Tryz.ntmps64,List.size_toArray,List.length_cons,List.length_nil,Nat.reduceAdd,Nat.reduceSub,Array.replicate_succ,Array.replicate_zero,List.push_toArray,List.append_toArray,List.nil_append,List.cons_append]
 gi_wp2
 refine⟨trivial, ?_⟩
 refine(callsIn_wide.2 CO.out).mono ?_
 rintro e2 w2 ⟨hb2,Ao,co,pl,rfl,hsl,hpp,hpw,hao⟩
 have hord:Ord am pl:=⟨hpp,hpw⟩
 have hpl:pl.length=am.length:=by rw[hpp.length_eq,dv]
 have HC2:=h_ (HC.out.keep (KpX.below hb2 HBW.out))
 have HJ2:=h_ (abide hJ H0.out hb2)
 have hOI:OrdI X b Ao pl w2:=⟨hsl,fun k e=>by
  obtain⟨hge,hc⟩:=hao k e
  have hlt:k<w2.heap.size:=by obtain⟨_,_,_,hh⟩:=hc;exact(Array.getElem?_eq_some_iff.1 hh).1
  refine⟨hlt,hc,fun hx=>absurd (HX.out k hx) (by omega), ?_⟩
  rw[eX (hb2.block b HBW.out),HOB.out];simp⟩
 have HOI:=h_ hOI
 have HORD:=h_ hord
 have HPL:=h_ hpl
 clear c1 CO HC H0 hsl hpp hpw hao hb2 hOI HX HOB hord hpl
 gi_wp2
 rw[HPL.out]
 gi_loopw [9] (fun v wr=> ∃(k:Nat) (pre:List (AmIn am)),v= .int .i64 (k:Int)/\k<=am.length/\Hid (dV pre=bi kn (pl.take k))/\J pre wr/\CtIs X b b1 b2 A c am kn wr/\OrdI X b Ao pl wr) (fun v _=>(am.length:Int).toNat- (RowKit.intOf v).toNat)
 case atStart=>exact⟨0,[],rfl,Nat.zero_le _,h_ rfl,HJ2.out,HC2.out,HOI.out⟩
 case round=>
  clear HJ2 HC2 HOI
  obtain⟨k,pre,rfl,hk,HPR,hJ1,hC1,hO1⟩:=hrel
  have HJ:=h_ hJ1
  have HC:=h_ hC1
  have HO:=h_ hO1
  clear hJ1
  rcases Nat.lt_or_eq_of_le hk with hkl|hkl
  ·have hki:(k:Int)<(am.length:Int):=by omega
   have hkb:(k:Int)+1<=9223372036854775807:=by omega
   obtain⟨x,ex⟩:∃x,pl[k]? =some x:=⟨_,List.getElem?_eq_getElem (by rw[HPL.out];exact hkl)⟩
   have hsl:=hO1.sl
   obtain⟨bo,oo,rfl⟩:=aC hsl (fun e=>by
    have h:pl.length=0:=by rw[List.map_eq_nil_iff.1 e];rfl
    have:=HPL.out
    omega)
   have cd:=bR hsl (show(pl.map (·.2))[k]? =some x.2 by rw[List.getElem?_map,ex];rfl)
   obtain⟨i,ei,hi⟩:=pls_mem (HORD.out.1.mem_iff.1 (List.mem_of_getElem? ex))
   have hil:i<am.length:=(List.getElem?_eq_some_iff.1 hi).1
   have hii:(i:Int)<(am.length:Int):=by omega
   have hsa:=hC1.sl
   obtain⟨bA,oA,rfl⟩:=aC hsa (fun e=>by rw[e]at hil;simp at hil)
   have c1:=hC1.c1
   have c2:=hC1.c2
   obtain⟨cs,ecs⟩:∃cs,cs=bH x.1:=⟨_,rfl⟩
   have hrg:wr.rangeAt bA (oA+i*22) cs:=by rw[ecs];exact az hsa hi
   have c3:wr.cell? ⟨bA,oA+i*22+2,none⟩=some (.int .i64 x.1.1.known):=hrg 2 _ (by rw[ecs];rfl)
   have HIC:Hid ((Tryz.prog.info? 62).map (·.size)=some cs.length):=by show _=_;rw[ecs];kernel_rfl
   have hmix:Tryz.prog.follows .mixedOrders=true:=by kernel_rfl
   have ECS:=h_ ecs
   have HKT:=h_ (knownL_take (kn:=kn) ex)
   have HKL:Hid (pre.length<am.length):=h_ (by rw[<-valsA_len,HPR.out];exact Nat.lt_of_le_of_lt (knownL_len kn pl k) hkl)
   have HXM:Hid (x.1∈am):=h_ (List.mem_of_getElem? hi)
   rw[ei]at cd
   clear ex hsl hsa ecs hi ei hC1 hO1 hil hk
   gi_wp2
   by_cases hx:x.1.1.known<=kn
   ·have hq:decide (x.1.1.known<=kn)=true:=decide_eq_true hx
    have HKT2:Hid (bi kn (pl.take (k+1))=bi kn (pl.take k)++ [x.1]):=h_ (by rw[HKT.out,if_pos hx])
    clear HKT hx cd
    refine Free.wpIn_region_freeT (.inl rfl) 13 [] (fun w2=>Below wr.heap.size wr w2/\w2.cell? ⟨b1,0,none⟩=some (.slice (some ⟨bA,oA,none⟩) am.length c)/\w2.cell? ⟨b2,0,none⟩=some (.int .i64 kn)/\w2.cell? ⟨bA,oA+i*22+2,none⟩=some (.int .i64 x.1.1.known)/\w2.rangeAt bA (oA+i*22) cs) (by kernel_rfl) (by kernel_rfl) (by kernel_rfl) (Free.mono_det (fun j mk r hf=>by cases hf)) ⟨(Below.refl _ _).drew,c1,c2,c3,hrg⟩ (fun w1 _ h g=>⟨h.1.trans (Below.mono g h.1.size),ax h.2.1 g,ax h.2.2.1 g,ax h.2.2.2.1 g,dQ h.2.2.2.2 g (Nat.le_refl _)⟩) ?_
    simp only[List.take_succ_cons,List.take_zero]
    clear c1 c2 c3 hrg
    iterate 12 (apply Free.chain_still (by first|exact Free.wanted_of rfl rfl rfl|rfl) rfl;(intro w' hB hA;obtain⟨qB,q1,q2,q3,q4⟩:=hB;clear hA qB q4;go_light;go_simp<;>rfl);(try simp only[Pt]))
    apply Free.chain_still (by first|exact Free.wanted_of rfl rfl rfl|rfl) rfl
    ·intro w' hB hA
     exact Hk.exec_mid 62 (.tmp 24) rfl bA (oA+i*22) rfl cs _ hB.2.2.2.2 Tryz.underlying62 rfl HIC.out
    simp only[Pt]
    apply Free.chain_nil
    intro w1 hB1 _ _
    simp only[List.drop_succ_cons,List.drop_zero]
    obtain⟨fn,tmps,assign,body,hy,hR⟩:=HY.out _ ⟨x.1,HXM.out⟩ w1 (abide hJ HJ.out hB1.1) HKL.out
    have HC2:=h_ (HC.out.keep (KpX.below hB1.1 HC.out.xb))
    have HO2:=h_ (HO.out.keep (KpX.below hB1.1 HC.out.xb))
    dsimp only[encA1]at hy
    rw[<-ECS.out]at hy
    have HR:=h_ hR
    clear hR HJ HC HO hB1 HKL
    gi_wp2
    refine HR.out.mono ?_
    rintro e3 wy (⟨rfl,hJ3,hk3⟩|⟨rfl,hJx3⟩)
    ·have HJ3:=h_ hJ3
     have HC3:=h_ (HC2.out.keep hk3)
     have HO3:=h_ (HO2.out.keep hk3)
     clear hJ3 hk3 HR hy HC2 HO2
     gi_wp2
     go_roundw
     case rel=>exact⟨k+1,_,rfl,hkl,h_ (by rw[dz,HKT2.out,HPR.out]),HJ3.out,HC3.out,HO3.out⟩
     case measure=>simp[RowKit.intOf];omega
    ·have G:=h_ (FB.out (.tuple #[]) wy pl _ HORD.out (by rw[dz,HPR.out, <-HKT2.out];exact knownL_prefix kn pl (k+1)) hJx3)
     clear hJx3 HR hy HC2 HO2
     gi_wp2
     first
      |exact G.out
      |exact bodyPost_ret (results_none rfl _ _ _) rfl G.out
   ·have hq:decide (x.1.1.known<=kn)=false:=decide_eq_false hx
    have HKT2:Hid (bi kn (pl.take (k+1))=bi kn (pl.take k)):=h_ (by rw[HKT.out,if_neg hx])
    clear HKT hx cd
    refine Free.wpIn_region_freeT (.inl rfl) 13 [] (fun w2=>Below wr.heap.size wr w2/\w2.cell? ⟨b1,0,none⟩=some (.slice (some ⟨bA,oA,none⟩) am.length c)/\w2.cell? ⟨b2,0,none⟩=some (.int .i64 kn)/\w2.cell? ⟨bA,oA+i*22+2,none⟩=some (.int .i64 x.1.1.known)) (by kernel_rfl) (by kernel_rfl) (by kernel_rfl) (Free.mono_det (fun j mk r hf=>by cases hf)) ⟨(Below.refl _ _).drew,c1,c2,c3⟩ (fun w1 _ h g=>⟨h.1.trans (Below.mono g h.1.size),ax h.2.1 g,ax h.2.2.1 g,ax h.2.2.2 g⟩) ?_
    simp only[List.take_succ_cons,List.take_zero]
    clear c1 c2 c3 hrg
    iterate 13 (first|(apply Free.chain_skip (by exact unwanted2 rfl rfl rfl rfl);simp only[Pt])|(apply Free.chain_still (by first|exact Free.wanted_of rfl rfl rfl|rfl) rfl;(intro w' hB hA;obtain⟨qB,q1,q2,q3⟩:=hB;clear hA qB;go_light;go_simp<;>rfl);(try simp only[Pt])))
    apply Free.chain_nil
    intro w1 hB1 _ _
    simp only[List.drop_succ_cons,List.drop_zero]
    have HJ3:=h_ (abide hJ HJ.out hB1.1)
    have HC3:=h_ (HC.out.keep (KpX.below hB1.1 HC.out.xb))
    have HO3:=h_ (HO.out.keep (KpX.below hB1.1 HC.out.xb))
    clear HJ HC HO hB1 HKL
    iterate 2 (refine listIn_skip (unwanted2 rfl rfl rfl rfl) ?_;simp only[Pt])
    gi_wp2
    go_roundw
    case rel=>exact⟨k+1,_,rfl,hkl,h_ (by rw[HKT2.out,HPR.out]),HJ3.out,HC3.out,HO3.out⟩
    case measure=>simp[RowKit.intOf];omega
  ·have hki: ¬(k:Int)<(am.length:Int):=by omega
   have G:=h_ (FA.out (.tuple #[]) wr pl pre HORD.out (by have:=HPR.out;rw[List.take_of_length_le (by rw[HPL.out];omega)]at this;exact this) HJ.out)
   clear HJ HC HO hC1 hO1
   gi_wp2
   first
    |exact G.out
    |(go_end0;exact G.out)
    |exact bodyPost_ret (results_none rfl _ _ _) rfl G.out
theorem counting_seq(m:Nat)(hm:1<=m)(b b1 b2:Nat)(X:Nat->Prop)(A:Option Addr)(c:Nat)(am:List (Pr×Hd))(kn:Int)(ham:am.length<=4000)(w:World)(hb:b<w.heap.size)(hX:∀k,X k->k<w.heap.size)(hob:obAt b w=none)(hC:CtIs X b b1 b2 A c am kn w):
  SeqStopsK Fence.wide m Tryz.prog 64 #[.pointer (some ⟨b1,0,none⟩), .pointer (some ⟨b2,0,none⟩)] (encA1 (am:=am)) (KpX X b) (fun ys=> ∃pl,Ord am pl/\dV ys=bi kn pl) (fun pre=> ∃pl,Ord am pl/\dV pre <+:bi kn pl) am.length w:=fun l J Jx W hW hJ _ hY h0=>
 count1_in m hm l b b1 b2 X A c am kn ham J Jx _ hJ hY W (Nat.lt_of_lt_of_le hb hW.size) (fun k hk=>Nat.lt_of_lt_of_le (hX k hk) hW.size) (by rw[eX (hW.block b hb)];exact hob) (hC.keep (KpX.below hW hb)) h0
end Go.Proofs.YtekfoaenomgjgaaGreatDoor
