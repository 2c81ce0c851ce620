/- Package migrate: start. Condition: the contract is valid and lies in memory; the state lies in rows of one's own. -/
import Derived.Test.YtekfoaenomgjgaaGreatDoorZ7
import Derived.Test.YtekfoaenomgjgaaGreatDoorZ8
import Derived.Test.YtekfoaenomgjgaaGreatDoorQE
import Derived.Test.YtekfoaenomgjgaaGreatDoorCvU
set_option maxRecDepth 100000
set_option linter.all false
namespace Go.Cv
open Go Go.Cs
def gu(ms:List Mar):Nat:=(ms.filter fun m=>m.status==0).length
theorem idleN_set{ms:List Mar}{i:Nat}{m m':Mar}(h:ms[i]? =some m)(h0:m.status=0)(h1:m'.status≠0):gu (ms.set i m')<gu ms:=by
 unfold gu
 obtain⟨hi,e⟩:=List.getElem?_eq_some_iff.1 h
 have hs:ms=ms.take i++m::ms.drop (i+1):=by rw[<-e,List.getElem_cons_drop,List.take_append_drop]
 have hl:(ms.take i).length=i:=by rw[List.length_take];omega
 have hset:ms.set i m'=ms.take i++m'::ms.drop (i+1):=by rw[List.set_eq_take_append_cons_drop,if_pos hi]
 rw[hset]
 conv=>rhs;rw[hs]
 simp[List.filter_append,List.filter_cons,h0,h1]
def bitV:Value->Nat
 | .bool true=>1
 |_=>0
def idleC(w:World)(g k:Nat):Bool:=match w.cell? ⟨g,k*5,none⟩with|some (.int _ n)=>n==0|_=>false
def idleW(w:World)(g n:Nat):Nat:=((List.range n).filter fun k=>idleC w g k).length
theorem fi{α β:Type}(f:α->β)(p:β->Bool):∀l:List α,((l.map f).filter p).length=(l.filter fun x=>p (f x)).length
 | []=>rfl
 |x::r=>by
  simp only[List.map_cons,List.filter_cons]
  cases p (f x)<;>simp[fi f p r]
theorem idleW_eq{w:World}{g:Nat}{ms:List Mar}(h:∀k m,ms[k]? =some m->w.cell? ⟨g,k*5,none⟩=some (.int .i64 m.status)):idleW w g ms.length=gu ms:=by
 unfold idleW gu
 have e:ms=(List.range ms.length).map fun k=>(ms[k]?).getD Mar.zero:=by
  apply List.ext_getElem?
  intro k
  rw[List.getElem?_map]
  by_cases hk:k<ms.length
  ·rw[List.getElem?_range hk,List.getElem?_eq_getElem hk];simp[List.getElem?_eq_getElem hk]
  ·rw[List.getElem?_eq_none (by omega),List.getElem?_eq_none (by simp;omega)];rfl
 conv=>rhs;rw[e,fi]
 congr 1
 apply List.filter_congr
 intro k hk
 have hk:=List.mem_range.1 hk
 unfold idleC
 rw[h k ms[k] (List.getElem?_eq_getElem hk),List.getElem?_eq_getElem hk]
 rfl
def StaM.withM(s:StaM)(ms:List Mar):StaM:= {s with marks:=ms}
end Go.Cv
namespace Go.Proofs.YtekfoaenomgjgaaGreatDoor
open Go.RowKit Go.W32 Go.Blk Go.Cs Go.Lib Go.Opn Go.Mg Go.Cv

def gOf:Option Addr->Nat
 |some a=>a.block
 |none=>0
def SrPost(c:ConM)(s:StaM)(lo:Nat)(W:World)(e:Ending)(w':World):Prop:=
 e= .returned (.tuple #[])/\Below lo W w'/\(∀k,k<W.heap.size->k≠gOf s.mA->w'.heap[k]? =W.heap[k]?)/\∃ms,Grew c.con.cls s.holders s.marks ms/\(∀(i:Nat) m k,ms[i]? =some m->c.con.cls[i]? =some k->bK ms k m=false)/\StaOw lo w' (s.withM ms)
structure SrI (s:StaM) (lo:Nat) (W W1:World) (cs ss:List Value) (ms:List Mar) (w:World):Prop where
 rc:Row w W.heap.size 27 cs
 rs:Row w (W.heap.size+1) 56 ss
 own:StaOw lo w (s.withM ms)
 len:ms.length=s.marks.length
 below:Below lo W1 w
 kept:∀k,k<W1.heap.size->k≠gOf s.mA->w.heap[k]? =W1.heap[k]?
 grow1:W1.heap.size<=w.heap.size
theorem SrI.grow{s:StaM}{lo:Nat}{W W1:World}{cs ss:List Value}{ms:List Mar}{w w':World}(h:SrI s lo W W1 cs ss ms w)(hb:Below w.heap.size w w')(hlo:lo<=w.heap.size):SrI s lo W W1 cs ss ms w':=
 ⟨h.rc.below hb h.rc.lt,h.rs.below hb h.rs.lt,h.own.below hb,h.len,h.below.trans (hb.mono hlo),fun k hk hn=>(hb.block k (Nat.lt_of_lt_of_le hk h.grow1)).trans (h.kept k hk hn),Nat.le_trans h.grow1 hb.size⟩
theorem SrI.put{s:StaM}{lo:Nat}{W W1:World}{cs ss:List Value}{ms ms':List Mar}{w w':World}{g:Nat}(h:SrI s lo W W1 cs ss ms w)(hA:s.mA=some ⟨g,0,none⟩)(hg:w.grownBy w' (some g))(hlo:lo<=w.heap.size)(hgl:g<W.heap.size)
  (hr:w'.ownsRow lo 66 5 (.slice (some ⟨g,0,none⟩) ms.length s.mc) ms.length (ms'.flatMap ah)) (hl:ms'.length=ms.length):SrI s lo W W1 cs ss ms' w':=by
 have hm:w.ownsRow lo 66 5 (.slice s.mA ms.length s.mc) ms.length (ms.flatMap ah):=h.own.m
 have hgg:(Value.slice s.mA ms.length s.mc).ownBlock=some g:=by rw[hA];rfl
 have hge:=(owns_lt hm hgg).1
 refine⟨h.rc.keep (hg.block _ h.rc.lt (fun e=>by injection e with e;omega)),h.rs.keep (hg.block _ h.rs.lt (fun e=>by injection e with e;omega)),⟨?_, ?_, ?_⟩,by rw[hl,h.len],h.below.trans (aj hg (fun k e=>by injection e with e;omega) hlo),fun k hk hn=>(hg.block k (Nat.lt_of_lt_of_le hk h.grow1) (fun e=>hn (by rw[hA];exact Option.some.inj e))).trans (h.kept k hk hn),Nat.le_trans h.grow1 hg.size⟩
 ·exact owns_keep h.own.h fun k hk=>hg.block k (owns_lt h.own.h hk).2 (fun e=>cv h.own.h hm (by decide) hk (by rw[hgg,e]))
 ·exact owns_keep h.own.u fun k hk=>hg.block k (owns_lt h.own.u hk).2 (fun e=>cv h.own.u hm (by decide) hk (by rw[hgg,e]))
 ·show w'.ownsRow lo 66 5 (.slice s.mA ms'.length s.mc) ms'.length (ms'.flatMap ah)
  rw[hA,hl];exact hr
theorem de{s:StaM}{ms:List Mar}(h:ms.length=s.marks.length):aE (s.withM ms)=aE s:=by unfold aE StaM.withM;simp only[h]
theorem begun4{k:Cls}{hs:List Int}(h:k.kind=4):dS k hs=⟨1,k.after,0, -1,false⟩:=by unfold dS;rw[if_pos (by simp[h])]
theorem begunN{k:Cls}{hs:List Int}{j:Nat}{x:Int}(h:k.kind≠4)(hj:k.role=(j:Int))(hx:hs[j]? =some x):dS k hs=⟨1,k.after,0,x,false⟩:=by
 unfold dS roleH
 rw[if_neg (by simp[h]),hj,Int.toNat_natCast,hx];rfl
theorem own_status{w:World}{lo c:Nat}{A:Option Addr}{ms:List Mar}(h:w.ownsRow lo 66 5 (.slice A ms.length c) ms.length (ms.flatMap ah))(k:Nat)(m:Mar)(hk:ms[k]? =some m):w.cell? ⟨gOf A,k*5,none⟩=some (.int .i64 m.status):=by
 have hkl:=(List.getElem?_eq_some_iff.1 hk).1
 rcases h.2 with⟨_,h2⟩|⟨g,cap,cur,e,_⟩
 ·omega
 ·injection e with e _ _
  subst e
  have hc:=h.cellAt (k*5+0) (by omega)
  rw[Sel.flat_at bI hk (show(ah m)[0]? =some (.int .i64 m.status) from rfl)]at hc
  exact hc
theorem idle_mem{w:World}{lo c:Nat}{A:Option Addr}{ms:List Mar}(h:w.ownsRow lo 66 5 (.slice A ms.length c) ms.length (ms.flatMap ah)):idleW w (gOf A) ms.length=gu ms:=idleW_eq (own_status h)
theorem set2{ms:List Mar}{i:Nat}{a b:Mar}:(ms.set i a).set i b=ms.set i b:=List.set_set ..
structure SrJ (c:Con) (hs:List Int) (m0 ms0 ms:List Mar) (i:Nat) (b:Bool):Prop where
 grew:Grew c.cls hs m0 ms
 no:b=false->ms=ms0/\∀(j:Nat) m k,j<i->ms[j]? =some m->c.cls[j]? =some k->bK ms k m=false
 yes:b=true->gu ms<gu ms0
theorem SrJ.skip{c:Con}{hs:List Int}{m0 ms0 ms:List Mar}{i:Nat}{b:Bool}{m:Mar}{k:Cls}(h:SrJ c hs m0 ms0 ms i b)(hm:ms[i]? =some m)(hk:c.cls[i]? =some k)(hr:bK ms k m=false):SrJ c hs m0 ms0 ms (i+1) b:=
 ⟨h.grew,fun e=>⟨(h.no e).1,fun j m' k' hj hm' hk'=>by
  rcases Nat.lt_or_eq_of_le (Nat.le_of_lt_succ hj)with hl|rfl
  ·exact(h.no e).2 j m' k' hl hm' hk'
  ·rw[hm]at hm';rw[hk]at hk';cases hm';cases hk';exact hr⟩,h.yes⟩
theorem SrJ.take{c:Con}{hs:List Int}{m0 ms0 ms:List Mar}{i:Nat}{b:Bool}{m:Mar}{k:Cls}(h:SrJ c hs m0 ms0 ms i b)(hm:ms[i]? =some m)(hk:c.cls[i]? =some k)(h0:m.status=0)(hw:k.waived=false):SrJ c hs m0 ms0 (ms.set i (dS k hs)) (i+1) true:=by
 have hlt:=idleN_set (m':=dS k hs) hm h0 (by show(1:Int)≠0;decide)
 refine⟨h.grew.set hk hm h0 hw,fun e=>(by cases e),fun _=> ?_⟩
 cases b with
 |false=>rw[<-(h.no rfl).1];exact hlt
 |true=>exact Nat.lt_trans hlt (h.yes rfl)
theorem conds_in2{c:Con}{i:Nat}{k:Cls}(h:bq c i k=true):k.start.length<=8/\∀x∈k.start,0<=x.1/\x.1<(c.cls.length:Int):=by
 unfold bq at h
 simp only[Bool.and_eq_true,decide_eq_true_eq,List.all_eq_true]at h
 refine⟨h.2.1.2,fun x hx=> ?_⟩
 have:=h.2.2.1 x hx
 unfold condV at this
 simp only[Bool.and_eq_true,decide_eq_true_eq]at this
 exact this.1
set_option maxHeartbeats 8000000 in
theorem start_any(c:ConM)(s:StaM)(lo:Nat)(W:World)(hc:∀w',Below lo W w'->ConAt w' c)(he:dx c.con=0)(hs:StaOw lo W s)(hlen:s.marks.length=c.kls.length)(hh:s.holders.length=c.holders.length)(hlo:lo<=W.heap.size):
  Calls Tryz.prog 95 #[.agg (ak c).toArray, .agg (aE s).toArray] W (SrPost c s lo W):=by
 obtain⟨R,eR⟩:∃R,R=SrPost c s lo W:=⟨_,rfl⟩
 rw[<-eR]
 obtain⟨cs,ecs⟩:∃cs,cs=ak c:=⟨_,rfl⟩
 obtain⟨ss,ess⟩:∃ss,ss=aE s:=⟨_,rfl⟩
 obtain⟨hr1,hr2,hb1⟩:=bu W 27 56 cs ss
 rw[<-ecs, <-ess]
 generalize eW:(W.alloc (.cells cs.toArray 27)).alloc (.cells ss.toArray 56)=W1 at*
 have FIN:Hid (∀w' ms,SrI s lo W W1 cs ss ms w'->Grew c.con.cls s.holders s.marks ms->(∀(i:Nat) m k,ms[i]? =some m->c.con.cls[i]? =some k->bK ms k m=false)->R (.returned (.tuple #[])) w'):=h_ fun w' ms h1 h2 h3=>by
  rw[eR];exact⟨rfl,(hb1.mono hlo).trans h1.below,fun k hk hn=>(h1.kept k (Nat.lt_of_lt_of_le hk hb1.size) hn).trans (hb1.block k hk),ms,h2,h3,h1.own⟩
 clear eR
 have E1:=h_ eW
 have hI1:SrI s lo W W1 cs ss s.marks W1:=⟨hr1,hr2,hs.below (hb1.mono (Nat.le_refl _)),rfl,Below.refl _ _,fun _ _ _=>rfl,Nat.le_refl _⟩
 have HI1:=h_ hI1
 have HSH:=h_ (ci he)
 have HKC:Hid (∀w',Below lo W1 w'->ConAt w' c):=h_ fun w' hb=>hc w' ((hb1.mono hlo).trans hb)
 have HLO:Hid (∀w',Below lo W1 w'->lo<=w'.heap.size/\W.heap.size<=w'.heap.size):=h_ fun w' hb=>⟨by have:=hb.size;have:=hb1.size;omega,Nat.le_trans hb1.size hb.size⟩
 have HCC:Hid (∀w' ms,SrI s lo W W1 cs ss ms w'->w'.cell? ⟨W.heap.size,4,none⟩=some (.slice c.kA c.kls.length c.kc)/\w'.cell? ⟨W.heap.size+1,1,none⟩=some (.slice s.hA s.holders.length s.hc)/\w'.cell? ⟨W.heap.size+1,3,none⟩=some (.slice s.mA s.marks.length s.mc)):=h_ fun w' ms h=>⟨h.rc.at (by rw[ecs];rfl),h.rs.at (by rw[ess];rfl),h.rs.at (by rw[ess];rfl)⟩
 have HLEN:=h_ hlen
 have HHH:=h_ hh
 have HEC:=h_ he
 have ESS:=h_ ess
 have HGL:Hid (∀g,s.mA=some ⟨g,0,none⟩->g<W.heap.size):=h_ fun g e=>(owns_lt hs.m (g:=g) (by rw[e];rfl)).2
 have HGA:Hid (s.marks.length≠0->∃g,s.mA=some ⟨g,0,none⟩):=h_ fun hn=>by
  rcases hs.m.2 with⟨_,h2⟩|⟨g,cap,cur,h2,_⟩
  ·exact absurd h2 hn
  ·injection h2 with h2 _;exact⟨g,h2⟩
 clear eW ecs ess hr1 hr2 hb1 hI1 hc he hs hlen hh hlo
 go_enter Tryz.func95,Tryz.ntmps95
 go_wp2_with (simp only[E1.out])
 go_loopw [4] (fun v wr=> ∃(b:Bool) (ms:List Mar),v= .bool b/\SrI s lo W W1 cs ss ms wr/\Hid (Grew c.con.cls s.holders s.marks ms/\(b=false->∀(i:Nat) m k,ms[i]? =some m->c.con.cls[i]? =some k->bK ms k m=false))) (fun v wr=>2*idleW wr (gOf s.mA) s.marks.length+bitV v)
 case atStart=>exact⟨true,s.marks,rfl,HI1.out,h_ ⟨Grew.refl _ _ _,fun e=>(by cases e)⟩⟩
 case round=>
  clear HI1
  obtain⟨b,ms0,rfl,hI,hno⟩:=hrel
  cases b with
  |false=>
   have HF:=h_ (FIN.out wr ms0 hI hno.out.1 (hno.out.2 rfl))
   clear FIN hI hno
   go_wp2_with fail
   first
    |exact HF.out
    |exact⟨_,rfl,rfl,HF.out⟩
    |exact⟨_,rfl,HF.out⟩
    |exact bodyPost_ret (results_none rfl _ _ _) rfl HF.out
  |true=>
   obtain⟨k4,_,_⟩:=HCC.out wr ms0 hI
   have HI0:=h_ hI
   clear hI
   go_wp2_with fail
   clear k4
   go_loopw [12,4] (fun u v w2=> ∃(i:Nat) (b:Bool) (ms:List Mar),u= .int .i64 (i:Int)/\v= .bool b/\i<=c.kls.length/\SrI s lo W W1 cs ss ms w2/\Hid (SrJ c.con s.holders s.marks ms0 ms i b)) (fun u _ _=>c.kls.length- (RowKit.intOf u).toNat)
   case atStart=>exact⟨0,false,ms0,rfl,rfl,Nat.zero_le _,HI0.out,h_ ⟨hno.out.1,fun _=>⟨rfl,fun j _ _ h=>absurd h (Nat.not_lt_zero _)⟩,fun e=>(by cases e)⟩⟩
   case round=>
    obtain⟨i,b,ms,rfl,rfl,hi,hI,hJ⟩:=hrel
    have hib:(i:Int)<=400:=by have:=HSH.out.k;omega
    rcases Nat.lt_or_eq_of_le hi with hil|hil
    ·have hii:(i:Int)<(c.kls.length:Int):=by omega
     have hi0:(0:Int)<=(i:Int):=by omega
     have hii2:(i:Int)<(s.marks.length:Int):=by have:=HLEN.out;omega
     have him:i<ms.length:=by have:=HLEN.out;have:=hI.len;omega
     obtain⟨k,ek⟩:∃k,c.kls[i]? =some k:=⟨_,List.getElem?_eq_getElem hil⟩
     obtain⟨m,em⟩:∃m,ms[i]? =some m:=⟨_,List.getElem?_eq_getElem him⟩
     have ekc:c.con.cls[i]? =some k.1:=by show(c.kls.map Prod.fst)[i]? =_;rw[List.getElem?_map,ek];rfl
     obtain⟨g,eg⟩:=HGA.out (by omega)
     have hlo:=(HLO.out wr hI.below).1
     have hcat:=HKC.out wr hI.below
     have hsl:=hcat.k
     obtain⟨kb,ko,eA⟩:=aC hsl (by intro e;rw[e]at hil;simp at hil)
     rw[eA]at hsl⊢
     obtain⟨ds,eds⟩:∃ds,ds=aF k:=⟨_,rfl⟩
     have hdl:ds.length=16:=by rw[eds];rfl
     have HMk:Hid (wr.rangeAt kb (ko+i*16) ds):=h_ (by rw[eds];exact az hsl ek)
     have HIk:=h_ (eE ds hdl)
     obtain⟨Wk,ewk⟩:∃Wk,Wk=wr.alloc (.cells ds.toArray 45):=⟨_,rfl⟩
     have hrk:Row Wk wr.heap.size 45 ds:=by rw[ewk];exact Row.new _ _ _
     have hbk:Below wr.heap.size wr Wk:=by rw[ewk];exact(Below.refl _ _).alloc (Nat.le_refl _) _
     have HSk:=h_ (store_k hdl (by rw[eds];exact cr k) 6 16 wr Wk _ rfl ewk)
     have hIk:=hI.grow hbk hlo
     have hst:=own_status hIk.own.m i m em
     have hst:Wk.cell? ⟨g,i*5,none⟩=some (.int .i64 m.status):=by
      have h:=hst
      show Wk.cell? ⟨gOf (some (⟨g,0,none⟩:Addr)),i*5,none⟩=_
      rw[<-eg];exact h
     obtain⟨_,_,s3⟩:=HCC.out Wk ms hIk
     rw[eg]at s3
     obtain⟨_,_,_,_,q4,q5,_,_,_,_,_,_,_,_,_,q15⟩:=ClsK.ofKl (T:=45) (k:=k) (by rw[<-eds];exact hrk)
     have HIK:=h_ hIk
     have HRK:=h_ hrk
     have EDS:=h_ eds
     have EG:=h_ eg
     have EM:=h_ em
     have EKC:=h_ ekc
     have HWK:Hid (wr.heap.size<Wk.heap.size/\g<wr.heap.size/\lo<=Wk.heap.size):=h_ ⟨hrk.lt,Nat.lt_of_lt_of_le (HGL.out g eg) (HLO.out wr hI.below).2,by have:=hbk.size;omega⟩
     have CA:=any_cd (s.withM ms) (W.heap.size+1) k.2.1 k.2.2 k.1.start Wk (by rw[de hI.len, <-ESS.out];exact hIk.rs) hIk.own.at_.m (by show ms.length<=4000;have:=hI.len;have:=HLEN.out;have:=HSH.out.k;omega) ((HKC.out Wk hIk.below).st k (List.mem_of_getElem? ek)) (fun x hx=>by
       have h:=(conds_in2 ((cE HEC.out).2.2 i k.1 ekc)).2 x hx
       rw[show c.con.cls.length=c.kls.length from List.length_map _]at h
       show 0<=x.1/\x.1<(ms.length:Int)
       have:=hI.len
       have:=HLEN.out
       omega) (by have:=(conds_in2 ((cE HEC.out).2.2 i k.1 ekc)).1;omega)
     obtain⟨sb,esb⟩:∃sb,sb=startB ms k.1:=⟨_,rfl⟩
     have hca:Calls Tryz.prog 139 #[.slice k.2.1 k.1.start.length k.2.2, .func (.func 137) #[] #[.pointer (some ⟨W.heap.size+1,0,none⟩)]] Wk fun e w'=>e= .returned (.bool (!sb))/\Below Wk.heap.size Wk w':=by rw[esb];exact CA
     have CA:=h_ hca
     have ESB:=h_ esb
     have HJ:=h_ hJ.out
     have OK:=h_ (okK_of ((cE HEC.out).2.2 i k.1 ekc))
     have ERD:Hid (bK ms k.1 m=((m.status==0)&&(!k.1.waived&&sb))):=h_ (by unfold bK;rw[esb])
     clear hcat hsl eA eds hdl ewk hrk hbk hIk eg em ekc ek hI hJ hca esb hi him
     by_cases h0:m.status=0
     rotate_left
     ·have b0:(m.status !=0)=true:=by simpa using h0
      have HN:Hid (bK ms k.1 m=false):=h_ (by rw[ERD.out];simp[h0])
      go_wp2_with (first
       |(refine ae (.tmp 16) ?_;refine wpList_load_mid rfl 45 (.tmp 16) rfl kb (ko+i*16) rfl ds _ HMk.out Tryz.underlying45 rfl HIk.out ?_)
       |(refine ae (.tmp 15) ?_;refine wpList_load_mid rfl 45 (.tmp 15) rfl kb (ko+i*16) rfl ds _ HMk.out Tryz.underlying45 rfl HIk.out ?_)
       |(refine ai (.tmp 6) ?_;refine HSk.out _ _ _ _ _ rfl rfl rfl rfl _ (by simp) ?_;simp only[Pt]))
      go_roundw
      case rel=>exact⟨i+1,b,ms,rfl,rfl,hil,HIK.out,h_ (HJ.out.skip EM.out EKC.out HN.out)⟩
      case measure=>simp[RowKit.intOf];omega
     have b0:(m.status !=0)=false:=by simpa using h0
     have H0:=h_ h0
     obtain⟨wv,ewv⟩:∃wv,wv=k.1.waived:=⟨_,rfl⟩
     rw[<-ewv]at q15 ERD
     have EWV:=h_ ewv
     clear h0 ewv
     cases wv with
     |true=>
      have HN:Hid (bK ms k.1 m=false):=h_ (by rw[ERD.out];simp)
      go_wp2_with (first
       |(refine ae (.tmp 16) ?_;refine wpList_load_mid rfl 45 (.tmp 16) rfl kb (ko+i*16) rfl ds _ HMk.out Tryz.underlying45 rfl HIk.out ?_)
       |(refine ae (.tmp 15) ?_;refine wpList_load_mid rfl 45 (.tmp 15) rfl kb (ko+i*16) rfl ds _ HMk.out Tryz.underlying45 rfl HIk.out ?_)
       |(refine ai (.tmp 6) ?_;refine HSk.out _ _ _ _ _ rfl rfl rfl rfl _ (by simp) ?_;simp only[Pt]))
      go_roundw
      case rel=>exact⟨i+1,b,ms,rfl,rfl,hil,HIK.out,h_ (HJ.out.skip EM.out EKC.out HN.out)⟩
      case measure=>simp[RowKit.intOf];omega
     |false=>
     go_wp2_with (first
      |(refine ae (.tmp 16) ?_;refine wpList_load_mid rfl 45 (.tmp 16) rfl kb (ko+i*16) rfl ds _ HMk.out Tryz.underlying45 rfl HIk.out ?_)
      |(refine ae (.tmp 15) ?_;refine wpList_load_mid rfl 45 (.tmp 15) rfl kb (ko+i*16) rfl ds _ HMk.out Tryz.underlying45 rfl HIk.out ?_)
      |(refine ai (.tmp 6) ?_;refine HSk.out _ _ _ _ _ rfl rfl rfl rfl _ (by simp) ?_;simp only[Pt]))
     refine CA.out.mono ?_
     rintro e w5 ⟨rfl,hb5⟩
     have hI5:=HIK.out.grow hb5 HWK.out.2.2
     have hr5:=HRK.out.below hb5 HRK.out.lt
     clear CA s3 q4 q5 q15 hst
     cases sb with
     |false=>
      have HN:Hid (bK ms k.1 m=false):=h_ (by rw[ERD.out];simp)
      have HI5:=h_ hI5
      clear hI5 hr5 hb5
      go_wp2_with fail
      go_roundw
      case rel=>exact⟨i+1,b,ms,rfl,rfl,hil,HI5.out,h_ (HJ.out.skip EM.out EKC.out HN.out)⟩
      case measure=>simp[RowKit.intOf];omega
     |true=>
     obtain⟨_,_,s3⟩:=HCC.out w5 ms hI5
     rw[EG.out]at s3
     obtain⟨_,_,_,_,_,q5,_,_,_,_,_,_,_,_,_,_⟩:=ClsK.ofKl (T:=45) (k:=k) (by rw[<-EDS.out];exact hr5)
     obtain⟨m1,em1⟩:∃m1:Mar,m1=⟨1,k.1.after,0, -1,false⟩:=⟨_,rfl⟩
     have hlo5:lo<=w5.heap.size:=Nat.le_trans HWK.out.2.2 hb5.size
     have HSE:Hid (∀(Q:Exit->Act->World->Prop) (ops:Array Oper) (rest:List Oper) (o:Oper) (a:Act),o.guard=none->o.op= .store 66 (.tmp 41) (.tmp 40)->a.eval (.tmp 41)= .pointer (some ⟨g,i*5,none⟩)->a.eval (.tmp 40)= .agg #[.int .i64 1, .int .i64 k.1.after, .int .i64 0, .int .i64 (-1), .bool false]->(∀w9,Hid (SrI s lo W W1 cs ss (ms.set i m1) w9/\Row w9 wr.heap.size 45 ds/\lo<=w9.heap.size)->wpList Tryz.prog ops Q rest (a.put o.dst undef) w9)->wpList Tryz.prog ops Q (o::rest) a w5):=h_ (by
      intro Q ops rest o a hgd ho hx hy hK
      have hrow:w5.ownsRow lo 66 5 (.slice (some ⟨g,0,none⟩) ms.length s.mc) ms.length (ms.flatMap ah):=by
       have h:=hI5.own.m
       have h2:w5.ownsRow lo 66 5 (.slice s.mA ms.length s.mc) ms.length (ms.flatMap ah):=h
       rw[EG.out]at h2;exact h2
      refine Sel.wpList_store_elem hgd 66 (.tmp 41) (.tmp 40) ho bI aB hrow i (List.getElem?_eq_some_iff.1 EM.out).1 m1 hx (by rw[hy,em1];rfl) (by kernel_rfl) ?_
      intro w9 o9 g9 z9
      exact hK w9 (h_ ⟨hI5.put EG.out g9 hlo5 (HGL.out g EG.out) o9 (by rw[List.length_set]),hr5.keep (g9.block _ hr5.lt (fun e=>by injection e with e;have:=HWK.out;omega)),by omega⟩))
     have EM1:=h_ em1
     have HM0:Hid (m.status=0/\k.1.waived=false):=h_ ⟨H0.out,EWV.out.symm⟩
     clear hI5 hr5 hb5 em1 hlo5 HIK HRK
     by_cases h4:k.1.kind=4
     ·have b4:(k.1.kind !=4)=false:=by simpa using h4
      have HN:Hid (m1=dS k.1 s.holders):=h_ (by rw[EM1.out,begun4 h4])
      clear h4
      go_wp2_with (refine ai (.tmp 41) ?_;refine HSE.out _ _ _ _ _ rfl rfl rfl rfl ?_;intro w9 H9;simp only[Pt];obtain⟨p0,_,_,_,_,_,_,_,_,_,_,_,_,_,_,_⟩:=ClsK.ofKl (T:=45) (k:=k) (show Row w9 wr.heap.size 45 (aF k) by rw[<-EDS.out];exact H9.out.2.1))
      go_roundw
      case rel=>exact⟨i+1,true,ms.set i m1,rfl,rfl,hil,H9.out.1,h_ (by rw[HN.out];exact HJ.out.take EM.out EKC.out HM0.out.1 HM0.out.2)⟩
      case measure=>simp[RowKit.intOf];omega
     ·have b4:(k.1.kind !=4)=true:=by simpa using h4
      obtain⟨j,ej⟩:∃j:Nat,k.1.role=(j:Int):=⟨k.1.role.toNat,by have:=(OK.out.r h4).1;omega⟩
      have hjl:j<s.holders.length:=by have h:=(OK.out.r h4).2;have:c.con.holders.length=c.holders.length:=rfl;have:=HHH.out;omega
      obtain⟨x,ex⟩:∃x,s.holders[j]? =some x:=⟨_,List.getElem?_eq_getElem hjl⟩
      have hji:(j:Int)<(s.holders.length:Int):=by omega
      have hj0:(0:Int)<=(j:Int):=by omega
      have HN:Hid ((⟨1,k.1.after,0,x,false⟩:Mar)=dS k.1 s.holders):=h_ (begunN h4 ej ex).symm
      have EJ:=h_ ej
      have EX:=h_ ex
      have HJL:=h_ hjl
      clear h4 ej ex hjl
      go_wp2_with (refine ai (.tmp 41) ?_;refine HSE.out _ _ _ _ _ rfl rfl rfl rfl ?_;intro w9 H9;simp only[Pt];obtain⟨p0,_,_,_,_,_,_,_,_,_,_,_,_,_,_,_⟩:=ClsK.ofKl (T:=45) (k:=k) (show Row w9 wr.heap.size 45 (aF k) by rw[<-EDS.out];exact H9.out.2.1))
      have hI9:=H9.out.1
      have hsh:=hI9.own.at_.h
      obtain⟨hb,ho,eH⟩:=aC hsh (by intro e;have e2:s.holders= []:=e;have:=HJL.out;rw[e2]at this;simp at this)
      have eH2:s.hA=some ⟨hb,ho,none⟩:=eH
      have HKK:Hid (∀w',Below w9.heap.size w9 w'->w'.cell? ⟨W.heap.size+1,3,none⟩=some (.slice (some ⟨g,0,none⟩) s.marks.length s.mc)/\w'.cell? ⟨W.heap.size+1,1,none⟩=some (.slice (some ⟨hb,ho,none⟩) s.holders.length s.hc)/\w'.cell? ⟨wr.heap.size,1,none⟩=some (.int .i64 (j:Int))/\w'.cell? ⟨hb,ho+j,none⟩=some (.int .i64 x)):=h_ fun w' hbw=>by
       have h1:=hI9.grow hbw H9.out.2.2
       obtain⟨_,a2,a3⟩:=HCC.out w' _ h1
       rw[EG.out]at a3
       rw[eH2]at a2
       obtain⟨_,a4,_,_,_,_,_,_,_,_,_,_,_,_,_,_⟩:=ClsK.ofKl (T:=45) (k:=k) (show Row w' wr.heap.size 45 (aF k) by rw[<-EDS.out];exact H9.out.2.1.below hbw H9.out.2.1.lt)
       have hs2:SL w' 1 Cs.encI s.hA s.holders:=h1.own.at_.h
       rw[eH2]at hs2
       exact⟨a3,a2,by rw[EJ.out]at a4;exact a4,bR hs2 EX.out⟩
      clear hI9 hsh eH eH2 p0
      refine Free.wp_region_free 11 [] (fun w'=>Below w9.heap.size w9 w') (by kernel_rfl) (by kernel_rfl) (Free.mono_det (fun j mk r hf=>by simp only[Free.find]at hf;repeat' (first|cases hf|split at hf))) (Below.refl _ _).drew (fun _ _ h g=>h.trans (Below.mono g h.size)) ?_
      simp only[List.take_succ_cons,List.take_zero]
      iterate 11 (apply Free.chain_still (by first|exact Free.wanted_of rfl rfl rfl|rfl) rfl;(intro w' hB hA;cases HKK.out w' hB;clear hA hB;go_light;go_simp<;>rfl);(try simp only[Pt]))
      apply Free.chain_nil
      intro w6 hw6 _ _
      simp only[List.drop_succ_cons,List.drop_zero,List.drop_nil]
      have hI6:=H9.out.1.grow hw6 H9.out.2.2
      have hrow:w6.ownsRow lo 66 5 (.slice (some ⟨g,0,none⟩) (ms.set i m1).length s.mc) (ms.set i m1).length ((ms.set i m1).flatMap ah):=by
       have h2:w6.ownsRow lo 66 5 (.slice s.mA (ms.set i m1).length s.mc) (ms.set i m1).length ((ms.set i m1).flatMap ah):=hI6.own.m
       rw[EG.out]at h2;exact h2
      have hset:(ms.set i m1)[i]? =some m1:=by rw[List.getElem?_set_self (List.getElem?_eq_some_iff.1 EM.out).1]
      have cw:=hrow.cellAt (i*5+3) (by rw[List.length_set];have:=(List.getElem?_eq_some_iff.1 EM.out).1;omega)
      rw[Sel.flat_at bI hset (show(ah m1)[3]? =some (.int .i64 m1.bearer) from rfl)]at cw
      have fw:=hrow.frozenAt (i*5+3)
      obtain⟨o9,g9⟩:=Sel.own_cell bI hrow i 3 hset (⟨1,k.1.after,0,x,false⟩:Mar) (.int .i64 x) (by decide) (by rw[EM1.out];rfl)
      have hlo6:lo<=w6.heap.size:=Nat.le_trans H9.out.2.2 hw6.size
      have HF:=h_ (hI6.put EG.out g9 hlo6 (HGL.out g EG.out) o9 (by rw[List.length_set]))
      clear hI6 hrow hset o9 g9 hlo6 hw6
      go_wp2_with fail
      go_roundw
      case rel=>exact⟨i+1,true,_,rfl,rfl,hil,HF.out,h_ (by rw[set2,HN.out];exact HJ.out.take EM.out EKC.out HM0.out.1 HM0.out.2)⟩
      case measure=>simp[RowKit.intOf];omega
    ·have hii: ¬(i:Int)<(c.kls.length:Int):=by omega
     have hm0:=idle_mem (A:=s.mA) (c:=s.mc) HI0.out.own.m
     have hm2:=idle_mem (A:=s.mA) (c:=s.mc) hI.own.m
     have h1:(s.withM ms0).marks.length=s.marks.length:=HI0.out.len
     have h2:(s.withM ms).marks.length=s.marks.length:=hI.len
     rw[h1]at hm0
     rw[h2]at hm2
     have HM0:=h_ hm0
     have HM2:=h_ hm2
     clear hm0 hm2 h1 h2
     go_wp2_with fail
     go_roundw
     case rel=>
      exact⟨b,ms,rfl,hI,h_ ⟨hJ.out.grew,fun e j m k hm hk=>by
       refine(hJ.out.no e).2 j m k ?_ hm hk
       have:=(List.getElem?_eq_some_iff.1 hm).1
       have:=hI.len
       have:=HLEN.out
       omega⟩⟩
     case measure=>
      rw[HM0.out,HM2.out]
      show 2*gu ms+bitV (.bool b)<2*gu ms0+1
      cases b with
      |false=>rw[(hJ.out.no rfl).1];show 2*gu ms0+0<_;omega
      |true=>have:=hJ.out.yes rfl;show 2*gu ms+1<_;omega
end Go.Proofs.YtekfoaenomgjgaaGreatDoor
