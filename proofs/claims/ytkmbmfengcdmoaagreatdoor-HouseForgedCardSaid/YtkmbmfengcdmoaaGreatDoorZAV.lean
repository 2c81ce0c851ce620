/- Package journal: the sectors of a half, as an iterator. No condition. -/
import Derived.Test.YtkmbmfengcdmoaaGreatDoorZAU
import Derived.Test.YtkmbmfengcdmoaaGreatDoorZAS
import Derived.Test.YtkmbmfengcdmoaaGreatDoorBlk
import Derived.RangeFuncNested
import Derived.RangeFuncBound
import Derived.RangeFuncCalls
import Derived.RangeFuncLeaves
import Derived.Shelf.Abstract
import Derived.Shelf.RegionOpen
import Derived.WalkKit
import Derived.OwnWalkIn
import Derived.TacticsInMore
import Derived.LoopNIn
import Derived.LoopIn
import Derived.Shelf.SlSorted.Search
import Derived.Test.YtkmbmfengcdmoaaGreatDoorZAP
set_option maxRecDepth 100000
set_option linter.all false
namespace Go.Proofs.YtkmbmfengcdmoaaGreatDoor
open Go.RowKit Go.ay Go.Jn Go.Dk Go.Mp
def bad(c:Int):List PanicEntry:= [{v:= .iface 265 (.int .i64 c),recovered:=false}]
theorem gP(c:Int)(w:World)(hc:(c==0)=false):Calls Tryz.prog 189 #[.int .i64 c] w λe w'=>e= .panicked (bad c)/\w=w':=by
 have hc2:(c !=0)=true:=by rw[bne,hc];rfl
 obtain⟨R,eR⟩:=x_ (λe w'=>e= .panicked (bad c)/\w=w':Ending->World->Prop)
 rw[<-eR];have F:Hid (R (.panicked (bad c)) w):=by rw[eR];exact⟨rfl,rfl⟩
 clear eR;go_enter Tryz.func189,Tryz.ntmps189;go_wp2_with fail;first
  |exact F.out
  |exact⟨rfl,F.out⟩
theorem zn{w:World}{jb:Nat}(s:Nat)(hj:w.cell? ⟨jb,4,none⟩=some (.int .i64 (s:Int)))(hs:s<=100000):Calls Tryz.prog 129 #[.pointer (some ⟨jb,0,none⟩)] w λe w'=>e= .returned (.int .i64 ((32*s:Nat):Int))/\w=w':=by go_enter Tryz.func129,Tryz.ntmps129;go_wp2_with fail;go_ret;refine⟨?_,rfl⟩;congr 2;first|go_num|omega
end Go.Proofs.YtkmbmfengcdmoaaGreatDoor
namespace Go.Rf
open Go Go.RowKit

theorem grown_of{w w':World}(h:Below w.heap.size w w'):w.grownBy w' none:=⟨h.os,h.tape,h.output,h.size,λk hk _=>h.block k hk⟩
theorem r8{β:Type}{B:Nat}{J:β->World->Prop}(hJ:AbidesFrom B J){s:β}{w w':World}(h:J s w)(hb:Below w.heap.size w w'):J s w':=
 hJ s w w' none h (grown_of hb) (λ_ e=>by cases e)
theorem jg{β:Type}{B:Nat}{I:β->World->Prop}(hI:OwnFrom B I){s:β}{w w':World}(h:I s w)(hb:Below w.heap.size w w'):I s w':=
 hI s w w' none h (grown_of hb) (λ_ e=>by cases e)
theorem gC{w w':World}(h:Below w.heap.size w w'):KeepsOthers w w':=⟨h.size,λk _ hk _=>(h.block k (iS.1 hk).1).trans hk⟩
theorem gj(w:World)(n:Nat):Below w.heap.size w (w.drewN n):=⟨rfl,rfl,rfl,aL _,λ_ _=>rfl⟩
theorem eY{W:World}{o:Obj}{n:Nat}(h:n=W.heap.size):(W.alloc o).heap[n]? =some o:=by subst h;exact World.alloc_heap_new W _
theorem bZ{W:World}{o o':Obj}{n:Nat}(h:W.heap[n]? =some o):(W.alloc o').heap[n]? =some o:=(Below.heap_alloc W o' n (iS.1 h).1).trans h
theorem jB{P:Program}{f:FuncId}{fn:Func}{c:Code}{args:Array Value}{w:World}{R:Ending->World->Prop}(n:Nat)
  (hf:P.funcs[f]? =some fn) (hb:fn.body=some c) (h:c.wp P (bodyPostM Fence.wide n P fn R) {tmps:=args++Array.replicate (fn.ntmps-args.size) undef,defers:= []} w):Calls P f args w R:=
 (callsIn_wide (n:=n)).1 (callsIn_of_wp_marks hf hb trivial (wpIn_wide.2 h) rfl)
theorem Kv{P:Program}(n:Nat)(h1:1<=n){α:Type}{g:Operand}{ps:Array Tmp}{assign body:Code}{Q:Exit->Act->World->Prop}{a:Act}{w:World}
  {gf:Nat} {lb:Array Value} (hg:a.eval g= .func (.func gf) #[] lb) (eg:∀args w,(callFunc gf args).run P w= .ok (.enter gf args) w)
  {encs:α->Array Value} {n0:Nat} {S Sp:List α->Prop} {N:Nat} (hn0:n0<=w.heap.size) (hseq:SeqStopsK Fence.wide (n-1) P gf lb encs (Below n0) S Sp N w) (hps:∀x,(encs x).size=ps.size)
  (I:List α->World->Prop) (Ix:Code->List α->World->Prop) (hI:OwnFrom w.heap.size I) (hIx:∀c,OwnFrom w.heap.size (Ix c)) (h0:I [] w) (a₁:α->Act)
  (hassign:∀(l:Nat) (x:α) (W:World) (K:Act->World->Prop),K (a₁ x) W->
   assign.wpIn (Fence.wide.inRound l) (n-1-1) P (Exit.then K (λ_ _ _=>False)) {tmps:=(ps.zip (encs x)).foldl (λt (p,v)=>t.setIfInBounds p v) a.tmps,defers:= []} W)
  (hbody:∀(l:Nat) (pre:List α) (x:α) (W:World),I pre W->pre.length<N->body.wpIn (Fence.wide.inRound l) (n-1-1) P (ownPostG w.heap.size (Below n0) I Ix (pre++ [x]) W) (a₁ x) W)
  (hdone:∀(D:Nat) (xs:List α) (W:World),w.heap.size<=D->S xs->I xs W->W.heap[D]? =some (.deferred (some []))->Q .normal {a with defers:= {target:= .collected D,args:= #[]}::a.defers} W)
  (hstop:∀(D:Nat) (c:Code) (pre:List α) (W:World),w.heap.size<=D->Sp pre->Ix c pre W->W.heap[D]? =some (.deferred (some []))->c.wp P Q {a with defers:= {target:= .collected D,args:= #[]}::a.defers} W):
  (Code.rangeFunc g ps assign body).wp P Q a w:=
 (wpIn_wide (n:=n)).1 (wpIn_rangeFunc_ownG rfl h1 hg trivial eg hseq (λh k=>h.trans (k.mono (aL _))) (λW l o o' hl ho hc hw=>belowK_b hn0 W l o o' hl ho hc hw) (Below.refl _ _) hps I Ix hI hIx h0 a₁ hassign hbody hdone (λD c pre W h1 h2 h3 h4=>wpIn_wide.2 (hstop D c pre W h1 h2 h3 h4)))
end Go.Rf
namespace Go.Proofs.YtkmbmfengcdmoaaGreatDoor
open Go.RowKit Go.ay Go.Jn Go.Dk Go.Mp Go.Rf Go.Shelf
open Go.Shelf in
def Tp:Go.Shelf.Ren:=⟨fun|16=>163|n=>n,fun|3=>3|4=>4|35=>113|38=>172|n=>n,fun|n=>n⟩
theorem MN:Go.Proofs.SlLaysO.n16 Tryz.prog Tp:= {
 mixed:=by kernel_rfl
 f16:=Tryz.func163.trans (congrArg some (by kernel_rfl))
 t3:=Tryz.underlying3
 a3:=Tryz.isAgg3
 z3:=Tryz.sizeOf3
 v3:=Tryz.zeroValue3
 t4:=Tryz.underlying4
 a4:=Tryz.isAgg4
 z4:=Tryz.sizeOf4
 v4:=Tryz.zeroValue4
 t35:=Tryz.underlying113
 a35:=Tryz.isAgg113
 z35:=Tryz.sizeOf113
 v35:=Tryz.zeroValue113
 t38:=Tryz.underlying172
 a38:=Tryz.isAgg172
 z38:=Tryz.sizeOf172
 v38:=Tryz.zeroValue172}
theorem qI(n:Nat):∀N,(List.range N).countP (λi=> !decide (n<=i))=min n N
 |0=>by simp
 |N+1=>by
  rw[RX,Sb,qI n N];by_cases h:n<=N
  ·simp[h];omega
  ·simp[h];omega
theorem FT{n:Nat}{d:DD}(hon:d.on=true)(i:Nat):(DD.read n d (i:Int)).2=if n<=i then 1 else 0:=by
 unfold DD.read;rw[if_pos hon];by_cases h:n<=i
 ·rw[if_neg (by unfold DD.hasB;simp;omega),if_pos h]
 ·rw[if_pos (by unfold DD.hasB;simp;omega),if_neg h]
theorem Lq{w:World}{bx b bs bm n:Nat}{pv:Value}{d:DD}(hc:w.cell? ⟨bx,0,none⟩=some (.pointer (some ⟨b,0,none⟩)))(h:aI w b bs bm pv d n)(hon:d.on=true)(i:Nat):
  Calls Tryz.prog 164 #[.int .i64 i, .pointer (some ⟨bx,0,none⟩)] w λe w'=>e= .returned (.bool (decide (n<=i)))/\w'=w.drewN 0:=by
 have R1:=h_ (oW h i);rw[FT hon]at R1;obtain⟨x,ex⟩:=x_ (⟨(DD.read n d i).1.toArray⟩:ByteArray)
 rw[<-ex]at R1;clear ex h hon;have hd:∃c:Int,c=(if n<=i then 1 else 0)/\(c !=0)=decide (n<=i):=by
  refine⟨_,rfl, ?_⟩;by_cases h:n<=i
  ·simp[h]
  ·simp[h]
 obtain⟨c,hc1,hc2⟩:=hd;rw[<-hc1]at R1;clear hc1;obtain⟨D,eD⟩:=x_ (decide (n<=i))
 rw[<-eD]at hc2⊢;clear eD;go_enter Tryz.func164,Tryz.ntmps164;go_wp2_with fail;refine R1.out.mono ?_;rintro e w' ⟨rfl,rfl⟩;go_wp2_with fail;go_ret;exact⟨rfl,rfl⟩
theorem Ek{w:World}{b bs bm n:Nat}{pv:Value}{d:DD}(h:aI w b bs bm pv d n)(hon:d.on=true):
  Calls Tryz.prog 101 #[.pointer (some ⟨b,0,none⟩)] w λe w'=>e= .returned (.int .i64 (n:Int))/\Below w.heap.size w w':=by
 have hn2:=h.ok.n2;have HV:Hid (Below w.heap.size w (w.alloc (.cells #[.pointer (some ⟨b,0,none⟩)] 65))):=(Below.refl _ w).alloc (aL _) _;have S1:Hid (Calls Tryz.prog 163 #[.int .i64 4000, .func (.func 164) #[] #[.pointer (some ⟨w.heap.size,0,none⟩)]] (w.alloc (.cells #[.pointer (some ⟨b,0,none⟩)] 65)) λe w'=>e= .returned (.int .i64 (n:Int))/\Below w.heap.size w w'):=by
  have:=Any.sort_Search MN 164 #[.pointer (some ⟨w.heap.size,0,none⟩)] 4000 (λi=>decide (n<=i)) (w.alloc (.cells #[.pointer (some ⟨b,0,none⟩)] 65)) (enters_of Tryz.func164 (by kernel_rfl) rfl) (by decide)
   (λm os i _=>(Lq (w:=Sort.grow ((w.alloc (.cells #[.pointer (some ⟨b,0,none⟩)] 65)).drewN m) os) (bx:=w.heap.size) (by rw[Go.Sort.cell?_grow _ _ _ (by simp)];exact cell_new_sl _ _ _) ((h.below HV.out).below (below_grown_sl _ _ m os (aL _))) hon i).mono λe w' ⟨he,hw⟩=>⟨he,0, #[],by rw[hw,Sort.grow_empty]⟩)
   (λx y hxy _ hx=>by simp at hx⊢;omega)
  refine this.mono ?_;rintro e w' ⟨rfl,q,os,rfl⟩;refine⟨?_,HV.out.trans (below_grown_sl _ _ q os (by simp))⟩;rw[qI,Sf hn2]
 clear h HV;have hmf:∀(fn:Fn) (first cap:Array Value) (w:World),(Instr.makeFunc fn first cap).run Tryz.prog w= .ok (.func fn first cap) w:=λ_ _ _ _=>rfl
 go_enter Tryz.func101,Tryz.ntmps101;go_wp2_with fail;refine S1.out.mono ?_;rintro e w1 ⟨rfl,hb1⟩;have L1:=h_ hb1;clear hb1;go_wp2_with fail;go_ret;exact⟨rfl,L1.out⟩
end Go.Proofs.YtkmbmfengcdmoaaGreatDoor
namespace Go.Rf
open Go Go.RowKit

section
variable {P:Program} {α:Type}
structure lj (d:Nat) (r:Loop) (W:World):Prop where
 loop:W.heap[d+1]? =some (.loop r)
 mark:W.heap[d]? =some (.deferred (some []))
theorem lj.bD{d:Nat}{r:Loop}{W W':World}(h:lj d r W)(hk:KeepsFrom d W W'):lj d r W':=
 ⟨hk.same _ _ (by omega) h.loop rfl,hk.same _ _ (aL _) h.mark rfl⟩
theorem lj.put{d:Nat}{r:Loop}{W:World}(h:lj d r W)(r':Loop):lj d r' (W.putObj (d+1) (.loop r')):=
 ⟨World.putObj_heap_same (iS.1 h.loop).1,(World.putObj_heap_other (by omega)).trans h.mark⟩
theorem lj.r8{d:Nat}{r:Loop}{B:Nat}:AbidesFrom B (fun(_:List α) W=>lj d r W):=λ_ _ _ _ h hg hr=>
 ⟨(grownBy_keeps hg (λr e=>(hr r e).2) h.loop rfl).trans h.loop,(grownBy_keeps hg (λr e=>(hr r e).2) h.mark rfl).trans h.mark⟩
theorem wS{β:Type}{d:Nat}{I:β->World->Prop}(hI:OwnFrom d I){s:β}{r:Loop}{W:World}(h:lj d r W)(hs:I s W)(r':Loop):I s (W.putObj (d+1) (.loop r')):=
 hI.putObj _ hs (by omega) h.loop rfl
end
open Go.Proofs.YtkmbmfengcdmoaaGreatDoor
def xv(_n:Nat)(P:Program)(c:Code)(Q:Exit->Act->World->Prop)(a:Act)(w:World):Prop:=
 ∀(b:Frame) (k:List Item) (cs:List Frame),b.roundOf=none->(∃fn,P.funcs[b.fn]? =some fn)->
  ∃e a' w',Q e a' w'/\ArrivesIn (Machine.fenced P Fence.wide) P (lone (b.atR a (.code c::k)) cs w) b k cs e a' w'
section
variable {P:Program} {n:Nat} {Q:Exit->Act->World->Prop} {a:Act} {w:World}
theorem ff{c:Code}(h:c.wp P Q a w):xv n P c Q a w:=λb k cs hb _=>(wpIn_wide (n:=n)).2 h b k cs hb trivial (room_wide _)
theorem gI{x y:Code}(h:xv n P x (Exit.then (xv n P y Q) Q) a w):xv n P (Code.seq x y) Q a w:=by
 intro b k cs hb hf;have h0:(lone (b.atR a (.code (.seq x y)::k)) cs w).fenced P Fence.wide:=fenced_wide P _;obtain⟨e,a₁,w₁,hq,harr⟩:=h b (.code y::k) cs hb hf;cases e with
 |normal=>obtain⟨e₂,a₂,w₂,hq₂,harr₂⟩:=hq b k cs hb hf;exact⟨e₂,a₂,w₂,hq₂, .of_steps (.head h0 stepR_seq harr) harr₂⟩
 |exit id=>exact⟨_,a₁,w₁,hq, .of_steps (.one h0 stepR_seq) (.pass (x:= .code y) rfl (λ_ _=> .inl (by simp)) harr)⟩
 |goto l=>exact⟨_,a₁,w₁,hq, .of_steps (.one h0 stepR_seq) (.pass (x:= .code y) rfl (λ_ _=> .inl (by simp)) harr)⟩
 |ret=>exact⟨_,a₁,w₁,hq, .of_steps (.one h0 stepR_seq) (.pass (x:= .code y) rfl (λ_ _=> .inl (by simp)) harr)⟩
 |panic ch=>exact⟨_,a₁,w₁,hq, .of_steps (.one h0 stepR_seq) (.pass (x:= .code y) rfl (λ_ _=> .inl (by simp)) harr)⟩
 |outgrown=>exact⟨_,a₁,w₁,hq, .of_steps (.one h0 stepR_seq) (.pass (x:= .code y) rfl (λ_ _=> .inl (by simp)) harr)⟩
theorem tT{id:Nat}{c:Code}(h:xv n P c (Exit.inBlock id Q) a w):xv n P (Code.block id c) Q a w:=by
 intro b k cs hb hf;have h0:(lone (b.atR a (.code (.block id c)::k)) cs w).fenced P Fence.wide:=fenced_wide P _;obtain⟨e,a₁,w₁,hq,harr⟩:=h b (.inBlock id::k) cs hb hf;cases e with
 |normal=>exact⟨.normal,a₁,w₁,hq, .head h0 stepR_block (StepsIn.trans harr (.one (fenced_wide P _) stepR_inBlock))⟩
 |exit id'=>
  by_cases hid:id'=id
  ·simp only[Exit.inBlock,hid,uf]at hq;exact⟨.normal,a₁,w₁,hq, .head h0 stepR_block (harr.1 k (by simp[exitTo,hid]))⟩
  ·simp only[Exit.inBlock,hid,B6]at hq;have this:(id==id')=false:=by simp;exact λh=>hid h.symm
   have hx:exitTo id' (.inBlock id::k)=exitTo id' k:=by simp[exitTo,this]
   exact⟨.exit id',a₁,w₁,hq,λk' hk=> .head h0 stepR_block (harr.1 k' (by rw[hx];exact hk)),
    λhr' hk=>let ⟨k₁,h1,h2⟩:=harr.2 hr' (by rw[hx];exact hk);⟨k₁,h1, .head h0 stepR_block h2⟩⟩
 |goto l=>
  have hx:gotoIn l (.inBlock id::k)=gotoIn l k:=by simp[gotoIn]
  exact⟨_,a₁,w₁,hq,λk' hk=> .head h0 stepR_block (harr.1 k' (by rw[hx];exact hk)),
   λhr' hk=>let ⟨k₁,h1,h2⟩:=harr.2 hr' (by rw[hx];exact hk);⟨k₁,h1, .head h0 stepR_block h2⟩⟩
 |ret=>exact⟨_,a₁,w₁,hq, .of_steps (.one h0 stepR_block) harr⟩
 |panic ch=>exact⟨_,a₁,w₁,hq, .of_steps (.one h0 stepR_block) harr⟩
 |outgrown=>exact⟨_,a₁,w₁,hq, .of_steps (.one h0 stepR_block) harr⟩
theorem xX{f:FuncId}{fn:Func}{c:Code}{args:Array Value}{R:Ending->World->Prop}(n:Nat)
  (hf:P.funcs[f]? =some fn) (hb:fn.body=some c) (h:xv n P c (bodyPostM Fence.wide n P fn R) {tmps:=args++Array.replicate (fn.ntmps-args.size) undef,defers:= []} w):Calls P f args w R:=by
 refine(callsIn_wide (n:=n)).1 ⟨trivial,λcs hr=> ?_⟩
 let b:Frame:= {(default:Frame)with fn:=f,kind:= .normal,roundOf:=none}
 have henter:Frame.enter P f args .normal=
   b.atR {tmps:=args++Array.replicate (fn.ntmps-args.size) undef,defers:= []} [.code c]:=by
  simp[Frame.enter,Frame.atR,hf,hb,b]
 obtain⟨e,a',w',hq,harr⟩:=h b [] cs rfl ⟨fn,hf⟩;rw[<-henter]at harr;cases e with
 |normal=>obtain⟨e',w'',fr',hR,hs,hfn,hl⟩:=leaves_stepsInM a'.defers .returning w' {b.atR a' []with mode:= .returning} cs rfl rfl rfl hf rfl trivial hr hq;exact⟨e',w'',fr',hR,ComesIn.of_steps (StepsIn.trans harr (.one (fenced_wide P _) (stepR_end rfl))) hs,hfn,hl⟩
 |ret=>obtain⟨todo,hs₀⟩:=harr.1 rfl;obtain⟨e',w'',fr',hR,hs,hfn,hl⟩:=leaves_stepsInM a'.defers .returning w' {b.atR a' todo with mode:= .returning} cs rfl rfl rfl hf rfl trivial hr hq;exact⟨e',w'',fr',hR,ComesIn.of_steps hs₀ hs,hfn,hl⟩
 |panic chain=>obtain⟨todo,hs₀⟩:=harr;obtain⟨e',w'',fr',hR,hs,hfn,hl⟩:=leaves_stepsInM a'.defers (.panicking chain) w' {b.atR a' todo with mode:= .panicking chain} cs rfl rfl rfl hf rfl trivial hr hq;exact⟨e',w'',fr',hR,ComesIn.of_steps hs₀ hs,hfn,hl⟩
 |exit id=>exact hq.elim
 |goto l=>exact hq.elim
 |outgrown=>exact⟨.outgrown,w',b,hq,harr.resolve_left (by simp[b]),rfl,trivial⟩
def Bo(P:Program)(l:Nat)(R:Ending->World->Prop):Exit->Act->World->Prop
 | .normal,_,w=> ∃v w',(Instr.endRound l none).run P w= .ok v w'/\R (.returned v) w'
 | .panic ch,a,w=>a.defers= []/\R (.panicked ch) w
 |_,_,_=>False
theorem xc{l:Nat}{f:FuncId}{tmps:Array Value}{assign body:Code}{R:Ending->World->Prop}(hfn:∃fn,P.funcs[f]? =some fn)
  (h:assign.wpIn (Fence.wide.inRound l) n P (Exit.then (λa₁ w₁=> ∃w₂,(Instr.beginRound l).run P w₁= .ok () w₂/\body.wpIn (Fence.wide.inRound l) n P (Bo P l R) a₁ w₂) (λ_ _ _=>False))
   {tmps:=tmps,defers:= []} w):
  RoundIn Fence.wide n P l f tmps assign body w R:=by
 refine⟨trivial,λc cs hr=> ?_⟩
 let b:Frame:= {(default:Frame)with fn:=f,kind:= .normal,roundOf:=some l}
 have hb0:Frame.round l f tmps assign body .normal=b.atR {tmps:=tmps,defers:= []} [.code assign, .beginRound, .code body]:=by simp[Frame.round,Frame.atR,b]
 obtain⟨e,a₁,w₁,hq,harr⟩:=h b [.beginRound, .code body] (c::cs) rfl trivial (room_wide _);rw[<-hb0]at harr;cases e with
 |normal=>
  obtain⟨w₂,hbr,hbody⟩:=hq;have s1:StepsIn (Machine.fenced P Fence.wide) P (lone (b.atR a₁ [.beginRound, .code body]) (c::cs) w₁) (lone (b.atR a₁ [.code body]) (c::cs) w₂):=
   .one (fenced_wide P _) (stepR_beginRound rfl hbr)
  obtain⟨e₂,a₂,w₃,hq₂,harr₂⟩:=hbody b [] (c::cs) rfl trivial (room_wide _);cases e₂ with
  |normal=>obtain⟨v,w₄,hend,hR⟩:=hq₂;exact⟨.returned v,w₄,hR,(StepsIn.trans harr s1).trans (StepsIn.trans harr₂ (.one (fenced_wide P _) (stepR_round_end rfl rfl hend)))⟩
  |panic chain=>obtain⟨hd,hR⟩:=hq₂;obtain⟨todo,hs⟩:=harr₂;exact⟨.panicked chain,w₃,hR,(StepsIn.trans harr s1).trans (StepsIn.trans hs (.one (fenced_wide P _) (step_leave_panicked ⟨rfl,hd,hfn⟩)))⟩
  |ret=>exact hq₂.elim
  |exit id=>exact hq₂.elim
  |goto t=>exact hq₂.elim
  |outgrown=>exact hq₂.elim
 |exit id=>exact hq.elim
 |goto t=>exact hq.elim
 |ret=>exact hq.elim
 |panic chain=>exact hq.elim
 |outgrown=>exact hq.elim
theorem tU{g:Operand}{ps:Array Tmp}{assign body:Code}
  (h:∀fn,(∃f,P.funcs[fn]? =some f)->∃(l:Nat) (mark:List Deferred) (w₁:World) (d:Deferred) (w₁':World) (f:FuncId) (args:Array Value) (w₂:World),
   (Instr.enterLoop fn a.tmps ps assign body none).run P w= .ok (l,mark) w₁/\
   (resolve a.eval (rangeCall g l) 0).run P w₁= .ok d w₁'/\
   (invoke d.target d.args).run P w₁'= .ok (.enter f args) w₂/\
   CallsIn Fence.wide (n-1) P f args w₂ (λe w₃=>match e with
    | .returned _=> ∃w₄,(Instr.endLoop l).run P w₃= .ok none w₄/\Q .normal {a with defers:=mark++a.defers} w₄
    | .panicked chain=>Q (.panic chain) {a with defers:=mark++a.defers} w₃
    | .outgrown=>False)):
  xv n P (Code.rangeFunc g ps assign body) Q a w:=by
 intro b k cs hro hbf;obtain⟨l,mark,w₁,d,w₁',f,args,w₂,he,hres,hinv,hcall⟩:=h b.fn hbf;rw[<-hro]at he;have henter:=stepR_rangeFunc (P:=P) (b:=b) (a:=a) (k:=k) (cs:=cs) (w:=w) he hres hinv;obtain⟨e,w₃,fr,hR,hsteps,hfn,hleave⟩:=hcall.2 (b.atR {a with defers:=mark++a.defers} (.inRangeFunc l::k)::cs) (room_wide _);cases e with
 |outgrown=>exact hR.elim
 |returned v=>
  obtain⟨w₄,hend,hj⟩:=hR;have sback:StepsIn (Machine.fenced P Fence.wide) P (lone (b.atR a (.code (.rangeFunc g ps assign body)::k)) cs w) (lone (b.atR {a with defers:=mark++a.defers} k) cs w₄):=by refine .head (fenced_wide P _) henter (StepsIn.trans hsteps (.head (fenced_wide P _) ?_ (.one (fenced_wide P _) (stepR_endRangeFunc (k:=k) hend))));rw[<-finish_atR_inRangeFunc l v];exact step_leave_returned hleave
  exact⟨.normal,_,w₄,hj,sback⟩
 |panicked chain=>refine⟨.panic chain,_,w₃,hR, .inRangeFunc l::k, .head (fenced_wide P _) henter (StepsIn.trans hsteps (.one (fenced_wide P _) ?_))⟩;rw[<-Frame.raise_atR];exact step_leave_panicked hleave
def Qh{α:Type}(n:Nat)(P:Program)(gf:Nat)(lb:Array Value)(encs:α->Array Value)(F:Nat->Prop)(Nx:List α->α->Prop)(S:List α->Prop)(w:World):Prop:=
 ∀(l:Nat) (J:List α->World->Prop) (Jp:List PanicEntry->World->Prop) (W:World),Below w.heap.size w W->AbidesFrom W.heap.size J->
  (∀pre x W1,J pre W1->Nx pre x->YieldAt Fence.wide (n-1) P l (encs x) W1 λe W'=>(e= .returned (.bool true)/\J (pre++ [x]) W'/\aJ F W1 W')\/(∃ch,e= .panicked ch/\Jp ch W'))->
  J [] W->CallsIn Fence.wide n P gf (#[.func (.yield l) #[] #[]]++lb) W λe W'=>((∃v,e= .returned v)/\∃xs,S xs/\J xs W')\/(∃ch,e= .panicked ch/\Jp ch W')
def RA{α:Type}(B:Nat)(F:Nat->Prop)(I:List α->World->Prop)(Ip:List PanicEntry->World->Prop)(pre:List α)(W:World):Exit->Act->World->Prop
 | .normal,_,W'=>KeepsFrom B W W'/\aJ F W W'/\I pre W'
 | .panic ch,a,W'=>KeepsFrom B W W'/\a.defers= []/\Ip ch W'
 |_,_,_=>False
theorem yG{F:Nat->Prop}{d n0:Nat}{W:World}(hF:∀k,n0<=k->F k)(hn:n0<=d)(r':Loop):aJ F W (W.putObj (d+1) (.loop r')):=
 (aJ.refl F W).grown (grownBy_putObj' W (d+1) _) (λk e _=>by cases e;exact hF _ (by omega))
theorem vO{α:Type}{g:Operand}{ps:Array Tmp}{assign body:Code}
  {gf:Nat} {lb:Array Value} (hg:a.eval g= .func (.func gf) #[] lb) (eg:∀args w,(callFunc gf args).run P w= .ok (.enter gf args) w)
  {encs:α->Array Value} {F:Nat->Prop} {Nx:List α->α->Prop} {S:List α->Prop} (hF:∀k,w.heap.size<=k->F k) (hseq:Qh (n-1) P gf lb encs F Nx S w) (hps:∀x,(encs x).size=ps.size)
  (I:List α->World->Prop) (Ip:List PanicEntry->World->Prop) (hI:OwnFrom w.heap.size I) (h0:I [] w) (a₁:α->Act)
  (hassign:∀(l:Nat) (x:α) (W:World) (K:Act->World->Prop),K (a₁ x) W->
   assign.wpIn (Fence.wide.inRound l) (n-1-1) P (Exit.then K (λ_ _ _=>False)) {tmps:=(ps.zip (encs x)).foldl (λt (p,v)=>t.setIfInBounds p v) a.tmps,defers:= []} W)
  (hbody:∀(l:Nat) (pre:List α) (x:α) (W:World),I pre W->Nx pre x->body.wpIn (Fence.wide.inRound l) (n-1-1) P (RA w.heap.size F I Ip (pre++ [x]) W) (a₁ x) W)
  (hdone:∀(D:Nat) (xs:List α) (W:World),w.heap.size<=D->S xs->I xs W->W.heap[D]? =some (.deferred (some []))->Q .normal {a with defers:= {target:= .collected D,args:= #[]}::a.defers} W)
  (hpanic:∀(D:Nat) (ch:List PanicEntry) (W:World),w.heap.size<=D->Ip ch W->W.heap[D]? =some (.deferred (some []))->Q (.panic ch) {a with defers:= {target:= .collected D,args:= #[]}::a.defers} W):
  xv n P (Code.rangeFunc g ps assign body) Q a w:=by
 refine tU λfn hfn=> ?_
 obtain⟨rc,hrc⟩:=x_ (λst pe=> {state:=st,pending:=pe,fn,tmps:=a.tmps,params:=ps,assign,body,defers:=w.heap.size}:LoopState->Option Code->Loop)
 have bk:lj w.heap.size (rc .ready none) ((w.alloc (.deferred (some []))).alloc (.loop (rc .ready none))):=⟨eY (by simp),bZ (eY rfl)⟩
 have gr:Below w.heap.size w ((w.alloc (.deferred (some []))).alloc (.loop (rc .ready none))):=((Below.refl _ w).alloc (aL _) _).alloc (by simp) _;have far:∀(A:World) (row:Option Nat),(∀r,row=some r->((w.alloc (.deferred (some []))).alloc (.loop (rc .ready none))).heap.size<=r/\∃o:Obj,A.heap[r]? =some o/\o.isWalk=true)->(∀r,row=some r->w.heap.size<=r/\∃o:Obj,A.heap[r]? =some o/\o.isCells=false):=
  λ_ _ hr r e=>⟨by have:=(hr r e).1;simp at this;omega,by obtain⟨_,o,ho,hw⟩:=hr r e;exact⟨o,ho,Obj.not_cells_of_walk hw⟩⟩
 obtain⟨W1,hW1⟩:=x_ ((w.alloc (.deferred (some []))).alloc (.loop (rc .ready none)))
 rw[<-hW1]at bk gr far;refine⟨w.heap.size+1,[{target:= .collected w.heap.size,args:= #[]}],W1,{target:= .fn (.func gf) lb,args:= #[.func (.yield (w.heap.size+1)) #[] #[]]},W1,gf, #[.func (.yield (w.heap.size+1)) #[] #[]]++lb,W1, ?_, ?_, ?_, ?_⟩
 ·rw[hW1,hrc];exact run_enterLoop_outer _ _ _ _ _
 ·simp only[resolve,hg];simp[go_sem]
 ·simp[invoke,go_sem,eg]
 refine(hseq (w.heap.size+1) (λpre W=>I pre W/\lj w.heap.size (rc .ready none) W) (λch W=>Ip ch W/\W.heap[w.heap.size]? =some (.deferred (some []))) _ gr
  (λs A B row hs hg' hr=>⟨hI s A B row hs.1 hg' (far _ _ hr),lj.r8 s A B row hs.2 hg' hr⟩) ?_ ⟨jg hI h0 gr,bk⟩).mono ?_
 ·rintro pre x W ⟨hi,hb⟩ hx;have hy:=run_yield (P:=P) (args:=encs x) hb.loop (by rw[hrc];exact hps x);rw[hrc]at hy;refine⟨fn,_,assign,body,hy,xc hfn (hassign _ x W _ ?_)⟩;refine⟨_,run_beginRound hb.loop (by rw[hrc]), ?_⟩;have hb2:=hb.put {rc .ready none with state:= .busy};refine wpIn_mono (hbody _ pre x _ (wS hI hb hi _) hx) ?_;rintro e a3 W3 hp;cases e with
  |normal=>
   obtain⟨hk3,hkp,hi3⟩:=hp;have hb3:=hb2.bD hk3;have h9:=run_endRound (P:=P) none hb3.loop;refine⟨_,_,h9, .inl ⟨rfl,⟨wS hI hb3 hi3 _, ?_⟩,((yG hF (aL _) _).trans hkp (λ_ _ g=>g)).trans (yG hF (aL _) _) (λ_ _ g=>g)⟩⟩
   have:=hb3.put (rc .ready none);rw[hrc]at this⊢;exact this
  |panic ch=>obtain⟨hk3,hd,hi3⟩:=hp;exact⟨hd, .inr ⟨ch,rfl,hi3,(hb2.bD hk3).mark⟩⟩
  |ret=>exact hp.elim
  |exit id=>exact hp.elim
  |goto t=>exact hp.elim
  |outgrown=>exact hp.elim
 ·rintro e W2 (⟨⟨v,rfl⟩,xs,hS,hi,hb⟩|⟨ch,rfl,hi,hb⟩)
  ·exact⟨_,by have:=run_endLoop (P:=P) hb.loop (by rw[hrc];simp);rw[hrc]at this;exact this,hdone _ xs _ (aL _) hS (wS hI hb hi _) ((hb.put _).mark)⟩
  ·exact hpanic _ ch _ (aL _) hi hb
end
end Go.Rf
namespace Go.Proofs.YtkmbmfengcdmoaaGreatDoor
open Go.RowKit Go.ay Go.Jn Go.Dk Go.Mp Go.Rf Go.Shelf
attribute [local go_sem] Oper.semAt_some

abbrev Ij (base k:Nat):Array Value:= #[.int .i64 ((base+k:Nat):Int), .int .i64 ((32*k:Nat):Int)]
theorem fL{F:Nat->Prop}{w w':World}{p:Addr}{v:Value}(h:w.cell? p=some v)(hk:aJ F w w')(hF: ¬F p.block):w'.cell? p=some v:=by have:=hk.block p.block (World.block_lt_of_cell? w _ h) hF;unfold World.cell? at*;rw[this];exact h
structure qF (W:World) (bl bo bh bj jb len off half size:Nat):Prop where
 l:W.cell? ⟨bl,0,none⟩=some (.int .i64 (len:Int))
 o:W.cell? ⟨bo,0,none⟩=some (.int .i64 (off:Int))
 h:W.cell? ⟨bh,0,none⟩=some (.int .i64 (half:Int))
 j:W.cell? ⟨bj,0,none⟩=some (.pointer (some ⟨jb,0,none⟩))
 s:W.cell? ⟨jb,4,none⟩=some (.int .i64 (size:Int))
theorem qF.bD{F:Nat->Prop}{W W':World}{bl bo bh bj jb len off half size:Nat}(h:qF W bl bo bh bj jb len off half size)(hk:aJ F W W')(h1: ¬F bl)(h2: ¬F bo)(h3: ¬F bh)(h4: ¬F bj)(h5: ¬F jb):qF W' bl bo bh bj jb len off half size:=
 ⟨fL h.l hk h1,fL h.o hk h2,fL h.h hk h3,fL h.j hk h4,fL h.s hk h5⟩
theorem Dh{off len i:Nat}(hi:i<(off+len+31) / 32-off / 32):(cW off len).take i++ [off / 32+i]=(cW off len).take (i+1):=by
 have hl:(cW off len).length=(off+len+31) / 32-off / 32:=by unfold cW;rw[Qa]
 rw[M1 (by omega)];unfold cW;simp
set_option maxHeartbeats 4000000 in
theorem zy(m:Nat)(hm:1<=m)(l bl bo bh bj jb:Nat)(F:Nat->Prop)(half off len size:Nat)(f1: ¬F bl)(f2: ¬F bo)(f3: ¬F bh)(f4: ¬F bj)(f5: ¬F jb)
  (g1:half<=1) (g2:off<=1000000) (g3:len<=1000000) (g4:size<=100000) (J:List Nat->World->Prop) (Jp:List PanicEntry->World->Prop) (B:Nat) (hJ:AbidesFrom B J)
  (hY:∀pre k W,J pre W->pre++ [k] <+:cW off len->YieldAt Fence.wide (m-1) Tryz.prog l (Ij (2+half*size) k) W λe W'=>
   (e= .returned (.bool true)/\J (pre++ [k]) W'/\aJ F W W')\/(∃ch,e= .panicked ch/\Jp ch W'))
  (W:World) (c:qF W bl bo bh bj jb len off half size) (h0:J [] W):
  CallsIn Fence.wide m Tryz.prog 224 #[.func (.yield l) #[] #[], .pointer (some ⟨bl,0,none⟩), .pointer (some ⟨bo,0,none⟩), .pointer (some ⟨bh,0,none⟩), .pointer (some ⟨bj,0,none⟩)] W λe W'=>
   ((∃v,e= .returned v)/\∃ys,ys=(if len=0 then []else cW off len)/\J ys W')\/(∃ch,e= .panicked ch/\Jp ch W'):=by
 obtain⟨R,eR⟩:=x_ (λe W'=>((∃v,e= .returned v)/\∃ys,ys=(if len=0 then []else cW off len)/\J ys W')\/(∃ch,e= .panicked ch/\Jp ch W'):Ending->World->Prop)
 rw[<-eR];have FR:Hid (∀v W',J (if len=0 then []else cW off len) W'->R (.returned v) W'):=λv W' h=>by rw[eR];exact .inl ⟨⟨_,rfl⟩,_,rfl,h⟩
 have FP:Hid (∀ch W',Jp ch W'->R (.panicked ch) W'):=λch W' h=>by rw[eR];exact .inr ⟨_,rfl,h⟩
 clear eR;have H0:=h_ h0;have HY:=h_ hY;have HC:=h_ c;clear h0 hY;obtain⟨c1,c2,c3,c4,c5⟩:=c;refine callsIn_of_wp Tryz.func224 rfl trivial ?_ rfl;simp only[Tryz.ntmps224,tY,kq,qA,Nat.reduceAdd,Nat.reduceSub,M0,MZ,M7,M6,xK,xC];by_cases hl:len=0
 ·have t1:((len:Int)==0)=true:=by simp;omega
  have G:=h_ (FR.out (.tuple #[]) W (by rw[if_pos hl];exact H0.out))
  gi_wp2
  first
   |exact G.out
   |exact bodyPost_ret (results_none rfl _ _ _) rfl G.out
 ·have t1:((len:Int)==0)=false:=by simp;omega
  rw[if_neg hl]at FR;have HL:=h_ hl;clear hl
  gi_wp2
  gi_loopw [6] (λvk wr=> ∃i:Nat,vk= .int .i64 ((off / 32+i:Nat):Int)/\i<=(off+len+31) / 32-off / 32/\J ((cW off len).take i) wr/\qF wr bl bo bh bj jb len off half size) (λvk _=>((off+len+31) / 32- (intOf vk).toNat))
  case atStart=>exact⟨0,by simp,gu _,H0.out,HC.out⟩
  case round=>
   clear c1 c2 c3 c4 c5 H0 HC;obtain⟨i,rfl,hi,hJ1,hS⟩:=hrel;have HJ:=h_ hJ1;have HS:=h_ hS;obtain⟨c1,c2,c3,c4,c5⟩:=hS;clear hJ1;obtain⟨k,ek⟩:=x_ (off / 32+i)
   have EK:=h_ ek;rw[<-ek];have hk:k<=100000:=by omega
   have hhs:half*size<=100000:=by
    have:half=0\/half=1:=by omega
    rcases this with rfl|rfl<;>omega
   have hpn:(half:Int)*(size:Int)=((half*size:Nat):Int):=by simp
   have w3:IntKind.i64.wrap ((half:Int)*(size:Int))=(half:Int)*(size:Int):=by rw[IntWalk.i64_left,IntWalk.wrap64_in _ ⟨by rw[hpn];omega,by rw[hpn];omega⟩]
   have w4:IntKind.i64.wrap (2+(half:Int)*(size:Int))=2+(half:Int)*(size:Int):=by rw[IntWalk.i64_left,IntWalk.wrap64_in _ ⟨by rw[hpn];omega,by rw[hpn];omega⟩]
   have w5:IntKind.i64.wrap (2+(half:Int)*(size:Int)+(k:Int))=2+(half:Int)*(size:Int)+(k:Int):=by rw[IntWalk.i64_left,IntWalk.wrap64_in _ ⟨by rw[hpn];omega,by rw[hpn];omega⟩]
   have hmix:Tryz.prog.follows .mixedOrders=true:=by kernel_rfl
   clear hpn;by_cases hlt:i<(off+len+31) / 32-off / 32
   ·have t2:decide ((k:Int)*32<(off:Int)+(len:Int))=true:=dt (by have:=HL.out;omega);clear ek;have e1:((2+half*size+k:Nat):Int)=2+(half:Int)*(size:Int)+(k:Int):=by simp
    have e2:((32*k:Nat):Int)=(k:Int)*32:=by omega
    have HX:Hid ((cW off len).take i++ [k] <+:cW off len):=by show _ <+:_;rw[EK.out,Dh hlt];exact List.take_prefix _ _
    have E1:=h_ e1;have E2:=h_ e2;clear e1 e2
    gi_wp2
    refine Free.gJ (.inl rfl) 12 [] (λw2=>Below wr.heap.size wr w2/\w2.cell? ⟨bh,0,none⟩=some (.int .i64 (half:Int))/\w2.cell? ⟨bj,0,none⟩=some (.pointer (some ⟨jb,0,none⟩))/\w2.cell? ⟨jb,4,none⟩=some (.int .i64 (size:Int))) (by kernel_rfl) (by kernel_rfl) (by kernel_rfl) (Free.aW (λj mk r hf=>by cases hf)) ⟨(Below.refl _ _).drew,c3,c4,c5⟩ (λ_ _ h g=>⟨h.1.trans (Below.mono g h.1.size),aO h.2.1 g,aO h.2.2.1 g,aO h.2.2.2 g⟩) ?_;simp only[eJ,dT];clear c1 c2 c3 c4 c5;iterate 12 (apply Free.ae (Free.wq rfl) rfl;(intro w' hB hA;obtain⟨qB,q1,q2,q3⟩:=hB;clear hA qB;go_light;go_simp<;>rfl);(try simp only[Pt]))
    apply Free.ax;intro w1 hB1 _ _;simp only[fm,fo];obtain⟨fn,tmps,assign,body,hy,hR⟩:=HY.out _ k w1 (r8 hJ HJ.out hB1.1) HX.out;have HS1:=h_ (HS.out.bD (F:=F) (aJ.aY hB1.1) f1 f2 f3 f4 f5);dsimp only[Ij]at hy;rw[E1.out,E2.out]at hy;have HR:=h_ hR;clear hR HJ HS hB1
    gi_wp2
    rw[hy];refine⟨λ_=>hm,HR.out.mono ?_⟩;rintro e3 wy (⟨rfl,hJ3,hk3⟩|⟨ch,rfl,hp3⟩)
    ·have HJ3:Hid (J ((cW off len).take (i+1)) wy):=by have:=hJ3;rw[EK.out,Dh hlt]at this;exact this
     have HS3:=h_ (HS1.out.bD hk3 f1 f2 f3 f4 f5);have REL:Hid (Value.int .i64 ((k:Int)+1)= .int .i64 ((off / 32+(i+1):Nat):Int)):=by show _=_;rw[EK.out];congr 1
     have MEA:Hid ((off+len+31) / 32- ((k:Int)+1).toNat<(off+len+31) / 32- (k:Int).toNat):=by show _<_;rw[EK.out];omega
     clear hJ3 hk3 HR hy HX HS1 w3 w4 w5
     gi_wp2
     go_roundw
     case rel=>exact⟨i+1,REL.out,hlt,HJ3.out,HS3.out⟩
     case measure=>exact MEA.out
    ·have G:=h_ (FP.out ch wy hp3);clear HR hy HX
     gi_wp2
     exact⟨rfl,G.out⟩
   ·have t2:decide ((k:Int)*32<(off:Int)+(len:Int))=false:=dy (by omega);have G:=h_ (FR.out (.tuple #[]) wr (by
     have:=HJ.out;rw[np (by unfold cW;rw[Qa];omega)]at this;exact this))
    clear c3 c4 c5 w3 w4 w5
    gi_wp2
    first
     |exact G.out
     |go_end0;exact G.out
     |exact bodyPost_ret (results_none rfl _ _ _) rfl G.out
theorem ml{w:World}(jb half off len:Nat):Calls Tryz.prog 170 #[.pointer (some ⟨jb,0,none⟩), .int .i64 (half:Int), .int .i64 (off:Int), .int .i64 (len:Int)] w λe w'=>
  e= .returned (.func (.func 224) #[] #[.pointer (some ⟨w.heap.size+3,0,none⟩), .pointer (some ⟨w.heap.size+2,0,none⟩), .pointer (some ⟨w.heap.size+1,0,none⟩), .pointer (some ⟨w.heap.size,0,none⟩)])/\
   w'=(((w.alloc (.cells #[.pointer (some ⟨jb,0,none⟩)] 101)).alloc (.cells #[.int .i64 (half:Int)] 3)).alloc (.cells #[.int .i64 (off:Int)] 3)).alloc (.cells #[.int .i64 (len:Int)] 3):=by
 have hmf:∀(fn:Fn) (first cap:Array Value) (w:World),(Instr.makeFunc fn first cap).run Tryz.prog w= .ok (.func fn first cap) w:=λ_ _ _ _=>rfl
 go_enter Tryz.func170,Tryz.ntmps170;go_wp2_with fail;go_ret;exact⟨rfl,rfl⟩
theorem rh(m bl bo bh bj jb:Nat)(hm:1<=m)(F:Nat->Prop)(half off len size:Nat)(f1: ¬F bl)(f2: ¬F bo)(f3: ¬F bh)(f4: ¬F bj)(f5: ¬F jb)
  (g1:half<=1) (g2:off<=1000000) (g3:len<=1000000) (g4:size<=100000) (w:World) (c:qF w bl bo bh bj jb len off half size):
  Qh m Tryz.prog 224 #[.pointer (some ⟨bl,0,none⟩), .pointer (some ⟨bo,0,none⟩), .pointer (some ⟨bh,0,none⟩), .pointer (some ⟨bj,0,none⟩)] (Ij (2+half*size)) F (λpre k=>pre++ [k] <+:cW off len) (λys=>ys=(if len=0 then []else cW off len)) w:=λl J Jp W hW hJ hY h0=>
 zy m hm l bl bo bh bj jb F half off len size f1 f2 f3 f4 f5 g1 g2 g3 g4 J Jp _ hJ hY W (c.bD (F:=λ_=>False) (aJ.aY hW) id id id id id) h0
end Go.Proofs.YtkmbmfengcdmoaaGreatDoor
