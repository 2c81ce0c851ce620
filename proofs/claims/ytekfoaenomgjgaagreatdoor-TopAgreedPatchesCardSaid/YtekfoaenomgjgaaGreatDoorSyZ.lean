/- Package migrate: migrated, where the patch can be applied. Condition: the contract, the patch and the state lie in memory; the state is well-formed. -/
import Derived.Test.YtekfoaenomgjgaaGreatDoorSyY
import Derived.Test.YtekfoaenomgjgaaGreatDoorZA
import Derived.Test.YtekfoaenomgjgaaGreatDoorCvS
import Derived.Test.YtekfoaenomgjgaaGreatDoorFre6
import Derived.Great.BuildSlice
set_option linter.all false
namespace Go.Cv
open Go Go.Cs
theorem offF_take{n:Int}{l:List Int}{last:Int}(k:Nat)(h:cA n last l=true):cA n last (l.take k)=true:=by
 cases h2:cA n last (l.take k)with
 |true=>rfl
 |false=>rw[fJ h2]at h;cases h
theorem offF_lt{n:Int}:∀ {l:List Int} {last:Int} {i:Nat} {x:Int},cA n last l=true->l[i]? =some x->∀y∈l.take i,y<x
 | [],_,_,_,_,h,_,_=>by simp at h
 |_::_,_,0,_,_,_,_,hy=>by simp at hy
 |a::r,last,i+1,x,ho,hx,y,hy=>by
  simp only[cA,Bool.and_eq_true,decide_eq_true_eq]at ho
  simp only[List.getElem?_cons_succ]at hx
  rw[List.take_succ_cons]at hy
  rcases List.mem_cons.1 hy with rfl|hy
  ·have:=(dM ho.2 x (List.mem_of_getElem? hx)).1;omega
  ·exact offF_lt ho.2 hx y hy
theorem offF_nth{n:Int}{l:List Int}{last:Int}{i:Nat}{x:Int}(ho:cA n last l=true)(hx:l[i]? =some x):last<x/\x<n:=dM ho x (List.mem_of_getElem? hx)
def mgL(c:Con)(p:Pat)(hs:List Int)(l:List Int)(m0:List Mar)(i:Nat):List Mar:=(l.take i).foldl (modL (chgM c.cls p hs)) m0
theorem mgL_len(c:Con)(p:Pat)(hs:List Int)(l:List Int)(m0:List Mar)(i:Nat):(mgL c p hs l m0 i).length=m0.length:=gC _ _ _
theorem mgL_at{c:Con}{p:Pat}{hs l:List Int}{m0:List Mar}{i x:Nat}{N:Int}(ho:cA N (-1) l=true)(hx:l[i]? =some (x:Int)):(mgL c p hs l m0 i)[x]? =m0[x]? :=by
 unfold mgL
 rw[gB _ _ (-1) _ (offF_take i ho) (Int.le_refl _) x]
 have hn: ¬(x:Int)∈l.take i:=fun h=>by have:=offF_lt ho hx _ h;omega
 simp only[hn,if_false]
 cases m0[x]? <;>rfl
theorem mgL_next{c:Con}{p:Pat}{hs l:List Int}{m0:List Mar}{i x:Nat}{m:Mar}(hx:l[i]? =some (x:Int))(hm:(mgL c p hs l m0 i)[x]? =some m):(mgL c p hs l m0 i).set x (chgM c.cls p hs x m)=mgL c p hs l m0 (i+1):=by
 unfold mgL at*
 rw[List.take_add_one,hx,Option.toList_some,List.foldl_append]
 show _=(List.foldl (modL (chgM c.cls p hs)) m0 (l.take i)).modify (x:Int).toNat (chgM c.cls p hs (x:Int))
 apply List.ext_getElem?
 intro j
 rw[List.getElem?_set,List.getElem?_modify,Int.toNat_natCast]
 by_cases hj:x=j
 ·subst hj
  rw[if_pos rfl,if_pos (List.getElem?_eq_some_iff.1 hm).1,hm];simp
 ·rw[if_neg hj];simp[hj]
theorem touched_off{c:Con}{p:Pat}{N:Nat}(h1:p.kind=1->N=c.cls.length+1)(h2:p.kind≠1->N=c.cls.length/\cA (c.cls.length:Int) (-1) p.cl=true):cA (N:Int) (-1) (du c.cls.length p)=true:=by
 unfold du
 by_cases hk:p.kind=1
 ·rw[if_pos (by simp[hk]),h1 hk]
  simp only[cA,Bool.and_true,Bool.and_eq_true,decide_eq_true_eq]
  omega
 ·rw[if_neg (by simp[hk]),(h2 hk).1];exact(h2 hk).2
end Go.Cv
namespace Go.Proofs.YtekfoaenomgjgaaGreatDoor
open Go.RowKit Go.W32 Go.Blk Go.Cs Go.Lib Go.Opn Go.Mg Go.Cv

def zSt:List Value:= [.int .i64 0, .slice none 0 0, .slice none 0 0, .slice none 0 0]
structure MgB (W:World) (cs ps ss:List Value) (w:World):Prop where
 rc:Row w W.heap.size 27 cs
 rp:Row w (W.heap.size+1) 47 ps
 rs:Row w (W.heap.size+1+1) 56 ss
 za:Row w (W.heap.size+1+1+1) 27 (ak gF)
 zb:Row w (W.heap.size+1+1+1+1) 56 zSt
 below:Below W.heap.size W w
theorem MgB.to{W w w':World}{cs ps ss:List Value}{B:Nat}(a:MgB W cs ps ss w)(hb:Below B w w')(hB:W.heap.size+4<B):MgB W cs ps ss w':=
 ⟨a.rc.below hb (by omega),a.rp.below hb (by omega),a.rs.below hb (by omega),a.za.below hb (by omega),a.zb.below hb (by omega),a.below.trans (hb.mono (by omega))⟩
theorem MgB.low{W w:World}{cs ps ss:List Value}(a:MgB W cs ps ss w):W.heap.size+4<w.heap.size:=a.zb.lt
theorem MgB.grow{W w w':World}{cs ps ss:List Value}(a:MgB W cs ps ss w)(hb:Below w.heap.size w w'):MgB W cs ps ss w':=a.to hb a.low
theorem MgB.new(W:World)(cs ps ss:List Value):∃W1,((((W.alloc (.cells cs.toArray 27)).alloc (.cells ps.toArray 47)).alloc (.cells ss.toArray 56)).alloc (.cells #[.int .i64 0, .slice none 0 0, .slice none 0 0, .slice none 0 0, .slice none 0 0, .int .i64 0, .slice none 0 0] 27)).alloc (.cells #[.int .i64 0, .slice none 0 0, .slice none 0 0, .slice none 0 0] 56)=W1/\MgB W cs ps ss W1:=by
 obtain⟨W0,e0,h1,h2,h3,h4,hb,hs⟩:=boxes4 W 27 47 56 27 cs ps ss (ak gF)
 refine⟨_,rfl, ?_⟩
 rw[show((((W.alloc (.cells cs.toArray 27)).alloc (.cells ps.toArray 47)).alloc (.cells ss.toArray 56)).alloc (.cells #[.int .i64 0, .slice none 0 0, .slice none 0 0, .slice none 0 0, .slice none 0 0, .int .i64 0, .slice none 0 0] 27))=W0 from e0]
 refine⟨h1.alloc _,h2.alloc _,h3.alloc _,h4.alloc _, ?_,hb.alloc (by omega) _⟩
 have h:=Row.new W0 56 zSt
 rw[hs]at h;exact h
structure RelX (b3 b4:Nat) (w w':World):Prop where
 os:w'.os=w.os
 tape:w'.tape=w.tape
 output:w'.output=w.output
 size:w.heap.size<=w'.heap.size
 block:∀k,k≠b3->k≠b4->k<w.heap.size->w'.heap[k]? =w.heap[k]?
theorem RelX.refl(b3 b4:Nat)(w:World):RelX b3 b4 w w:=⟨rfl,rfl,rfl,Nat.le_refl _,fun _ _ _ _=>rfl⟩
theorem RelX.trans{b3 b4:Nat}{a b c:World}(h:RelX b3 b4 a b)(g:RelX b3 b4 b c):RelX b3 b4 a c:=
 ⟨g.os.trans h.os,g.tape.trans h.tape,g.output.trans h.output,Nat.le_trans h.size g.size,fun k h1 h2 h3=>(g.block k h1 h2 (Nat.lt_of_lt_of_le h3 h.size)).trans (h.block k h1 h2 h3)⟩
theorem RelX.row{b3 b4:Nat}{w w':World}(h:RelX b3 b4 w w'){b:Nat}{T:TypeId}{cs:List Value}(hr:Row w b T cs)(h3:b≠b3)(h4:b≠b4):Row w' b T cs:=hr.keep (h.block b h3 h4 hr.lt)
theorem RelX.setRow{b3 b4 b:Nat}{w:World}(hb:b=b3\/b=b4)(cs:Array Value):RelX b3 b4 w (w.setRow b cs):=
 ⟨rfl,rfl,rfl,by simp[World.setRow],fun k h1 h2 _=>setRow_other w b k cs (by rcases hb with rfl|rfl<;>omega)⟩
theorem cH{P:Program}{fn:Func}{p q t:Tmp}{ty tz:TypeId}{v2:Value}(h:fn.results= #[.cell p ty, .cell q tz, .tmp t])(tmps:Array Value)(w:World)(g g2:Nat)(T T2:TypeId)(cs ds:Array Value)(fr fr2:Nat×Nat)(d d2:TypeDesc)
  (hp:tmps.getD p undef= .pointer (some ⟨g,0,none⟩)) (hg:w.heap[g]? =some (.cells cs T fr)) (hu:P.underlying ty=some d) (hd:(match d with| .struct _| .array _ _=>true|_=>false)=true) (hi:(P.info? ty).map (·.size)=some cs.size)
  (hq:tmps.getD q undef= .pointer (some ⟨g2,0,none⟩)) (hg2:w.heap[g2]? =some (.cells ds T2 fr2)) (hu2:P.underlying tz=some d2) (hd2:(match d2 with| .struct _| .array _ _=>true|_=>false)=true) (hi2:(P.info? tz).map (·.size)=some ds.size) (hv2:tmps.getD t undef=v2):
  (results fn tmps).run P w= .ok (.tuple #[.agg cs, .agg ds,v2]) w:=by
 have hp':tmps[p]?.getD undef= .pointer (some ⟨g,0,none⟩):=by simpa using hp
 have hq':tmps[q]?.getD undef= .pointer (some ⟨g2,0,none⟩):=by simpa using hq
 have hv2':tmps[t]?.getD undef=v2:=by simpa using hv2
 simp[results,h,hp',hq',hv2',asAddr,run_loadVar_row w g T ty cs fr d hg hu hd hi,run_loadVar_row w g2 T2 tz ds fr2 d2 hg2 hu2 hd2 hi2]
def MgO(c:Con)(p:Pat)(s:Sta)(d:Con)(lo:Nat)(w':World)(s':StaM):Prop:=
 s'.day=s.day/\s'.holders=s.holders/\s'.used=s.used/\Grew d.cls s.holders (migM c p s d.cls.length) s'.marks/\(∀(i:Nat) m k,s'.marks[i]? =some m->d.cls[i]? =some k->bK s'.marks k m=false)/\StaOw lo w' s'
def MgPost(c:Con)(p:Pat)(s:Sta)(d:Con)(W:World)(e:Ending)(w':World):Prop:=
 Below W.heap.size W w'/\∃(c':ConM) (s':StaM),e= .returned (.tuple #[.agg (ak c').toArray, .agg (aE s').toArray, .int .i64 0])/\MgO c p s d W.heap.size w' s'
theorem mark_left{P:Int}{H:Nat}{k:Cls}{m:Mar}(hk:OkK H k)(h:aR P k m=true):0<=m.left/\m.left<=400:=by
 rcases cW h with⟨rfl,_⟩|⟨_,h1,h2⟩|⟨_,h0,h1,h2⟩|⟨_,h2⟩
 ·exact⟨by decide,by decide⟩
 ·have:=(run_iff.1 h2).l;have:=hk.a2;omega
 ·have:=(run_iff.1 h2).l;have:=(hk.n1 h0).2.2.2;omega
 ·unfold fR at h2
  simp only[Bool.and_eq_true,beq_iff_eq]at h2
  omega
theorem dayK_of{H:Nat}{k:Cls}(h:OkK H k):DayK k:=by
 refine⟨by have:=h.a1;omega,h.a2, ?_, ?_⟩
 ·by_cases hk:k.kind=1
  ·exact(h.n1 hk).2.2.1
  ·have:=(h.n2 hk).2;omega
 ·by_cases hk:k.kind=1
  ·exact(h.n1 hk).2.2.2
  ·have:=(h.n2 hk).2;omega
structure MgK (c:ConM) (p:Pat) (s:StaM) (d:Con) (N:Nat):Prop where
 ch:ChK c p s.holders
 off:cA (N:Int) (-1) (du c.con.cls.length p)=true
 n:N=d.cls.length
 big:c.con.cls.length<=N
 kind:∀x:Nat,(x:Int)∈du c.con.cls.length p->p.kind=1\/x<c.kls.length
 left:∀(i:Nat) m,(s.marks++List.replicate (N-s.marks.length) Mar.idle)[i]? =some m->0<=m.left/\m.left<=400
 marks:s.marks.length=c.kls.length
 hold:s.holders.length=c.holders.length
 used:s.used.length<=4000
 err:dx d=0
 dh:d.holders.length=c.holders.length
 len:p.cl.length<=400
theorem eff_len{k:Int}{e:Eff}(h:gc k=some e):e.most<=400:=by
 unfold gc at h
 repeat' split at h
 all_goals first|(cases h;done)|skip
 all_goals (cases h;decide)
theorem mgK{c:ConM}{p:Pat}{s:StaM}{d:Con}(hv:sysB c.con s.sta=true)(hd:bf c.con p=some d):MgK c p s d d.cls.length:=by
 obtain⟨e,he,hc,hf,hdv,hda⟩:=gY hd
 obtain⟨hof,_,hhi,hsp⟩:=fits_off hf
 obtain⟨h1,h2,h3,h4,h5⟩:=sys_out hv
 obtain⟨q1,q2,q3,q4,q5⟩:=shape_out h2
 have hsh:=ci hc
 have hcl:c.con.cls.length=c.kls.length:=List.length_map _
 have okc:∀(i:Nat) k,c.con.cls[i]? =some k->OkK c.con.holders.length k:=fun i k h=>okK_of ((cE hc).2.2 i k h)
 have okd:∀(i:Nat) k,d.cls[i]? =some k->OkK d.holders.length k:=fun i k h=>okK_of ((cE hdv).2.2 i k h)
 have hlen:d.cls.length=if p.kind=1 then c.con.cls.length+1 else c.con.cls.length:=by rw[hda];exact upd_len
 have hdh:d.holders=c.con.holders:=by rw[hda];rfl
 have hmk:s.marks.length=c.kls.length:=by have h:s.sta.marks.length=c.con.cls.length:=q5;rw[hcl]at h;exact h
 have hho:s.holders.length=c.holders.length:=q3
 have hnew:p.kind=2->OkK c.con.holders.length p.new:=fun hk=>by
  rcases gD he with⟨k1,_⟩|⟨_,l1,l2⟩|⟨k1,_⟩|⟨k1,_⟩|⟨k1,_⟩
  ·omega
  ·obtain⟨x,hx⟩:∃x,p.cl= [x]:=by
    match h:p.cl with
    | []=>rw[h]at hhi;have:=(fits_off hf).2.1;rw[h]at this;simp at this;omega
    | [x]=>exact⟨x,rfl⟩
    |x::y::r=>rw[h]at hhi;simp at hhi;omega
   have hxr:=dM hof x (by rw[hx];exact List.mem_cons_self)
   have hk2:d.cls[x.toNat]? =some p.new:=by
    rw[hda]
    show(upd p c.con.cls)[x.toNat]? =_
    unfold upd
    rw[if_neg (by omega),if_pos hk,hx]
    show(c.con.cls.set x.toNat p.new)[x.toNat]? =_
    rw[List.getElem?_set_self (by omega)]
   have:=okd _ _ hk2
   rw[hdh]at this;exact this
  ·omega
  ·omega
  ·omega
 refine⟨⟨by have:=hsh.k;omega,by have:=hsh.h;omega,fun k hk=> ?_,fun hk=> ?_,fun hk=> ?_,fun hk=>dayK_of (hnew hk),fun hk h4=> ?_⟩, ?_,rfl, ?_, ?_, ?_,hmk,hho, ?_,hdv,by rw[hdh];rfl, ?_⟩
 ·obtain⟨i,hi,e⟩:=List.mem_iff_getElem.1 hk
  exact dayK_of (okc i k.1 (by show(c.kls.map Prod.fst)[i]? =_;rw[List.getElem?_map,List.getElem?_eq_getElem hi,e];rfl))
 ·rcases gD he with⟨k1,_⟩|⟨k1,_⟩|⟨k1,_⟩|⟨k1,_⟩|⟨_,k2⟩
  all_goals first|omega|(have:=hsp k2;omega)
 ·unfold dw daysB at hf
  simp only[Bool.and_eq_true,decide_eq_true_eq]at hf
  rcases gD he with⟨k1,_⟩|⟨k1,_⟩|⟨k1,_⟩|⟨k1,_⟩|⟨_,k2⟩
  ·omega
  ·omega
  ·omega
  ·omega
  ·have:=hf.2.2.2
   rw[k2,if_pos rfl]at this
   simp only[Bool.and_eq_true,decide_eq_true_eq]at this
   exact this.2
 ·have:=(hnew hk).r h4
  have h:c.con.holders.length=c.holders.length:=rfl
  omega
 ·refine touched_off (fun hk=>by rw[hlen,if_pos hk]) (fun hk=>⟨by rw[hlen,if_neg hk],hof⟩)
 ·rw[hlen];split<;>omega
 ·intro x hx
  by_cases hk:p.kind=1
  ·exact .inl hk
  ·unfold du at hx
   rw[if_neg (by simp[hk])]at hx
   have:=(dM hof _ hx).2
   exact .inr (by omega)
 ·intro i m hm
  by_cases hi:i<s.marks.length
  ·rw[List.getElem?_append_left hi]at hm
   have hic:i<c.con.cls.length:=by omega
   exact mark_left (okc i _ (List.getElem?_eq_getElem hic)) (h5 i m _ hm (List.getElem?_eq_getElem hic)).1
  ·rw[List.getElem?_append_right (by omega)]at hm
   have:=List.getElem?_eq_some_iff.1 hm
   obtain⟨h,e⟩:=this
   rw[List.getElem_replicate]at e
   rw[<-e];exact⟨by decide,by decide⟩
 ·have h:s.used.length=c.acts.length:=q4
  have:=hsh.a;omega
 ·have:=eff_len he;omega
end Go.Proofs.YtekfoaenomgjgaaGreatDoor
