/- Package journal: the sectors of a half, as an iterator. No condition. -/
import Derived.Test.YtkmbmfengcdmoaaGreatDoorZAV
import Derived.Test.YtkmbmfengcdmoaaGreatDoorZAT
import Derived.Test.YtkmbmfengcdmoaaGreatDoorBlk
import Derived.RangeFuncNested
import Derived.RangeFuncBound
import Derived.RangeFuncCalls
import Derived.RangeFuncLeaves
import Derived.Shelf.Abstract
import Derived.Shelf.RegionOpen
import Derived.WalkKit
import Derived.OwnWalkIn
import Derived.TacticsInMore
import Derived.LoopNIn
import Derived.LoopIn
import Derived.Shelf.SlSorted.Search
import Derived.Test.YtkmbmfengcdmoaaGreatDoorZAQ
set_option maxRecDepth 100000
set_option linter.all false
namespace Go.Proofs.YtkmbmfengcdmoaaGreatDoor
open Go.RowKit Go.ay Go.Jn Go.Dk Go.Mp
def bad(c:Int):List PanicEntry:= [{v:= .iface 265 (.int .i64 c),recovered:=false}]
theorem gP(c:Int)(w:World)(d:(c==0)=false):Calls Tryz.prog 189 #[.int .i64 c] w λe w'=>e= .panicked (bad c)/\w=w':=by
 have f:(c !=0)=true:=by rw[bne,d];rfl
 obtain⟨R,b⟩:=x_ (λe w'=>e= .panicked (bad c)/\w=w':Ending->World->Prop)
 rw[<-b];have F:Hid (R (.panicked (bad c)) w):=by rw[b];exact⟨rfl,rfl⟩
 clear b;go_enter Tryz.func189,Tryz.ntmps189;go_wp2_with fail;first
  |exact F.out
  |exact⟨rfl,F.out⟩
theorem zn{w:World}{jb:Nat}(s:Nat)(b:w.cell? ⟨jb,4,none⟩=some (.int .i64 (s:Int)))(c:s<=100000):Calls Tryz.prog 129 #[.pointer (some ⟨jb,0,none⟩)] w λe w'=>e= .returned (.int .i64 ((32*s:Nat):Int))/\w=w':=by go_enter Tryz.func129,Tryz.ntmps129;go_wp2_with fail;go_ret;refine⟨?_,rfl⟩;congr 2;first|go_num|omega
end Go.Proofs.YtkmbmfengcdmoaaGreatDoor
namespace Go.Rf
open Go Go.RowKit

theorem grown_of{w w':World}(h:Below w.heap.size w w'):w.grownBy w' none:=⟨h.os,h.tape,h.output,h.size,λk b _=>h.block k b⟩
theorem r8{β:Type}{B:Nat}{J:β->World->Prop}(b:AbidesFrom B J){s:β}{w w':World}(h:J s w)(c:Below w.heap.size w w'):J s w':=
 b s w w' none h (grown_of c) (λ_ e=>by cases e)
theorem jg{β:Type}{B:Nat}{I:β->World->Prop}(b:OwnFrom B I){s:β}{w w':World}(h:I s w)(c:Below w.heap.size w w'):I s w':=
 b s w w' none h (grown_of c) (λ_ e=>by cases e)
theorem gC{w w':World}(h:Below w.heap.size w w'):KeepsOthers w w':=⟨h.size,λk _ b _=>(h.block k (iS.1 b).1).trans b⟩
theorem gj(w:World)(n:Nat):Below w.heap.size w (w.drewN n):=⟨rfl,rfl,rfl,aL _,λ_ _=>rfl⟩
theorem eY{W:World}{o:Obj}{n:Nat}(h:n=W.heap.size):(W.alloc o).heap[n]? =some o:=by subst h;exact World.alloc_heap_new W _
theorem bZ{W:World}{o o':Obj}{n:Nat}(h:W.heap[n]? =some o):(W.alloc o').heap[n]? =some o:=(Below.heap_alloc W o' n (iS.1 h).1).trans h
theorem jB{P:Program}{f:FuncId}{fn:Func}{c:Code}{args:Array Value}{w:World}{R:Ending->World->Prop}(n:Nat)
  (d:P.funcs[f]? =some fn) (b:fn.body=some c) (h:c.wp P (bodyPostM Fence.wide n P fn R) {tmps:=args++Array.replicate (fn.ntmps-args.size) undef,defers:= []} w):Calls P f args w R:=
 (callsIn_wide (n:=n)).1 (callsIn_of_wp_marks d b trivial (wpIn_wide.2 h) rfl)
theorem Kv{P:Program}(n:Nat)(s:1<=n){α:Type}{g:Operand}{A:Array Tmp}{d body:Code}{Q:Exit->Act->World->Prop}{a:Act}{w:World}
  {gf:Nat} {C:Array Value} (R:a.eval g= .func (.func gf) #[] C) (F:∀args w,(callFunc gf args).run P w= .ok (.enter gf args) w)
  {encs:α->Array Value} {n0:Nat} {S B:List α->Prop} {N:Nat} (y:n0<=w.heap.size) (m:SeqStopsK Fence.wide (n-1) P gf C encs (Below n0) S B N w) (z:∀x,(encs x).size=A.size)
  (I:List α->World->Prop) (q:Code->List α->World->Prop) (M:OwnFrom w.heap.size I) (u:∀c,OwnFrom w.heap.size (q c)) (G:I [] w) (r:α->Act)
  (e:∀(l:Nat) (x:α) (W:World) (K:Act->World->Prop),K (r x) W->
   d.wpIn (Fence.wide.inRound l) (n-1-1) P (Exit.then K (λ_ _ _=>False)) {tmps:=(A.zip (encs x)).foldl (λt (p,v)=>t.setIfInBounds p v) a.tmps,defers:= []} W)
  (f:∀(l:Nat) (b:List α) (x:α) (W:World),I b W->b.length<N->body.wpIn (Fence.wide.inRound l) (n-1-1) P (ownPostG w.heap.size (Below n0) I q (b++ [x]) W) (r x) W)
  (i:∀(D:Nat) (E:List α) (W:World),w.heap.size<=D->S E->I E W->W.heap[D]? =some (.deferred (some []))->Q .normal {a with defers:= {target:= .collected D,args:= #[]}::a.defers} W)
  (j:∀(D:Nat) (c:Code) (b:List α) (W:World),w.heap.size<=D->B b->q c b W->W.heap[D]? =some (.deferred (some []))->c.wp P Q {a with defers:= {target:= .collected D,args:= #[]}::a.defers} W):
  (Code.rangeFunc g A d body).wp P Q a w:=
 (wpIn_wide (n:=n)).1 (wpIn_rangeFunc_ownG rfl s R trivial F m (λh k=>h.trans (k.mono (aL _))) (λW l o X T U O V=>belowK_b y W l o X T U O V) (Below.refl _ _) z I q M u G r e f i (λD c b W s H J L=>wpIn_wide.2 (j D c b W s H J L)))
end Go.Rf
namespace Go.Proofs.YtkmbmfengcdmoaaGreatDoor
open Go.RowKit Go.ay Go.Jn Go.Dk Go.Mp Go.Rf Go.Shelf
open Go.Shelf in
def Tp:Go.Shelf.Ren:=⟨fun|16=>163|n=>n,fun|3=>3|4=>4|35=>113|38=>172|n=>n,fun|n=>n⟩
theorem MN:Go.Proofs.SlLaysO.n16 Tryz.prog Tp:= {
 mixed:=by kernel_rfl
 f16:=Tryz.func163.trans (congrArg some (by kernel_rfl))
 t3:=Tryz.underlying3
 a3:=Tryz.isAgg3
 z3:=Tryz.sizeOf3
 v3:=Tryz.zeroValue3
 t4:=Tryz.underlying4
 a4:=Tryz.isAgg4
 z4:=Tryz.sizeOf4
 v4:=Tryz.zeroValue4
 t35:=Tryz.underlying113
 a35:=Tryz.isAgg113
 z35:=Tryz.sizeOf113
 v35:=Tryz.zeroValue113
 t38:=Tryz.underlying172
 a38:=Tryz.isAgg172
 z38:=Tryz.sizeOf172
 v38:=Tryz.zeroValue172}
theorem qI(n:Nat):∀N,(List.range N).countP (λi=> !decide (n<=i))=min n N
 |0=>by simp
 |N+1=>by
  rw[RX,Sb,qI n N];by_cases h:n<=N
  ·simp[h];omega
  ·simp[h];omega
theorem FT{n:Nat}{d:DD}(b:d.on=true)(i:Nat):(DD.read n d (i:Int)).2=if n<=i then 1 else 0:=by
 unfold DD.read;rw[if_pos b];by_cases h:n<=i
 ·rw[if_neg (by unfold DD.hasB;simp;omega),if_pos h]
 ·rw[if_pos (by unfold DD.hasB;simp;omega),if_neg h]
theorem Lq{w:World}{bx b o bm n:Nat}{pv:Value}{d:DD}(q:w.cell? ⟨bx,0,none⟩=some (.pointer (some ⟨b,0,none⟩)))(h:aI w b o bm pv d n)(g:d.on=true)(i:Nat):
  Calls Tryz.prog 164 #[.int .i64 i, .pointer (some ⟨bx,0,none⟩)] w λe w'=>e= .returned (.bool (decide (n<=i)))/\w'=w.drewN 0:=by
 have j:=h_ (oW h i);rw[FT g]at j;obtain⟨x,m⟩:=x_ (⟨(DD.read n d i).1.toArray⟩:ByteArray)
 rw[<-m]at j;clear m h g;have p:∃c:Int,c=(if n<=i then 1 else 0)/\(c !=0)=decide (n<=i):=by
  refine⟨_,rfl, ?_⟩;by_cases h:n<=i
  ·simp[h]
  ·simp[h]
 obtain⟨c,f,k⟩:=p;rw[<-f]at j;clear f;obtain⟨D,l⟩:=x_ (decide (n<=i))
 rw[<-l]at k⊢;clear l;go_enter Tryz.func164,Tryz.ntmps164;go_wp2_with fail;refine j.out.mono ?_;rintro e w' ⟨rfl,rfl⟩;go_wp2_with fail;go_ret;exact⟨rfl,rfl⟩
theorem Ek{w:World}{b o bm n:Nat}{pv:Value}{d:DD}(h:aI w b o bm pv d n)(k:d.on=true):
  Calls Tryz.prog 101 #[.pointer (some ⟨b,0,none⟩)] w λe w'=>e= .returned (.int .i64 (n:Int))/\Below w.heap.size w w':=by
 have j:=h.ok.n2;have g:Hid (Below w.heap.size w (w.alloc (.cells #[.pointer (some ⟨b,0,none⟩)] 65))):=(Below.refl _ w).alloc (aL _) _;have S1:Hid (Calls Tryz.prog 163 #[.int .i64 4000, .func (.func 164) #[] #[.pointer (some ⟨w.heap.size,0,none⟩)]] (w.alloc (.cells #[.pointer (some ⟨b,0,none⟩)] 65)) λe w'=>e= .returned (.int .i64 (n:Int))/\Below w.heap.size w w'):=by
  have:=Any.sort_Search MN 164 #[.pointer (some ⟨w.heap.size,0,none⟩)] 4000 (λi=>decide (n<=i)) (w.alloc (.cells #[.pointer (some ⟨b,0,none⟩)] 65)) (enters_of Tryz.func164 (by kernel_rfl) rfl) (by decide)
   (λm f i _=>(Lq (w:=Sort.grow ((w.alloc (.cells #[.pointer (some ⟨b,0,none⟩)] 65)).drewN m) f) (bx:=w.heap.size) (by rw[Go.Sort.cell?_grow _ _ _ (by simp)];exact cell_new_sl _ _ _) ((h.below g.out).below (below_grown_sl _ _ m f (aL _))) k i).mono λe w' ⟨p,s⟩=>⟨p,0, #[],by rw[s,Sort.grow_empty]⟩)
   (λx y u _ t=>by simp at t⊢;omega)
  refine this.mono ?_;rintro e w' ⟨rfl,q,f,rfl⟩;refine⟨?_,g.out.trans (below_grown_sl _ _ q f (by simp))⟩;rw[qI,Sf j]
 clear h g;have r:∀(fn:Fn) (first cap:Array Value) (w:World),(Instr.makeFunc fn first cap).run Tryz.prog w= .ok (.func fn first cap) w:=λ_ _ _ _=>rfl
 go_enter Tryz.func101,Tryz.ntmps101;go_wp2_with fail;refine S1.out.mono ?_;rintro e v ⟨rfl,c⟩;have l:=h_ c;clear c;go_wp2_with fail;go_ret;exact⟨rfl,l.out⟩
end Go.Proofs.YtkmbmfengcdmoaaGreatDoor
namespace Go.Rf
open Go Go.RowKit

section
variable {P:Program} {α:Type}
structure lj (d:Nat) (r:Loop) (W:World):Prop where
 loop:W.heap[d+1]? =some (.loop r)
 mark:W.heap[d]? =some (.deferred (some []))
theorem lj.bD{d:Nat}{r:Loop}{W b:World}(h:lj d r W)(c:KeepsFrom d W b):lj d r b:=
 ⟨c.same _ _ (by omega) h.loop rfl,c.same _ _ (aL _) h.mark rfl⟩
theorem lj.put{d:Nat}{r:Loop}{W:World}(h:lj d r W)(b:Loop):lj d b (W.putObj (d+1) (.loop b)):=
 ⟨World.putObj_heap_same (iS.1 h.loop).1,(World.putObj_heap_other (by omega)).trans h.mark⟩
theorem lj.r8{d:Nat}{r:Loop}{B:Nat}:AbidesFrom B (fun(_:List α) W=>lj d r W):=λ_ _ _ _ h b c=>
 ⟨(grownBy_keeps b (λr e=>(c r e).2) h.loop rfl).trans h.loop,(grownBy_keeps b (λr e=>(c r e).2) h.mark rfl).trans h.mark⟩
theorem wS{β:Type}{d:Nat}{I:β->World->Prop}(b:OwnFrom d I){s:β}{r:Loop}{W:World}(h:lj d r W)(c:I s W)(e:Loop):I s (W.putObj (d+1) (.loop e)):=
 b.putObj _ c (by omega) h.loop rfl
end
open Go.Proofs.YtkmbmfengcdmoaaGreatDoor
def xv(_n:Nat)(P:Program)(c:Code)(Q:Exit->Act->World->Prop)(a:Act)(w:World):Prop:=
 ∀(b:Frame) (k:List Item) (cs:List Frame),b.roundOf=none->(∃fn,P.funcs[b.fn]? =some fn)->
  ∃e a' w',Q e a' w'/\ArrivesIn (Machine.fenced P Fence.wide) P (lone (b.atR a (.code c::k)) cs w) b k cs e a' w'
section
variable {P:Program} {n:Nat} {Q:Exit->Act->World->Prop} {a:Act} {w:World}
theorem ff{c:Code}(h:c.wp P Q a w):xv n P c Q a w:=λb k d e _=>(wpIn_wide (n:=n)).2 h b k d e trivial (room_wide _)
theorem gI{x y:Code}(h:xv n P x (Exit.then (xv n P y Q) Q) a w):xv n P (Code.seq x y) Q a w:=by
 intro b k m p q;have f:(lone (b.atR a (.code (.seq x y)::k)) m w).fenced P Fence.wide:=fenced_wide P _;obtain⟨e,i,j,g,c⟩:=h b (.code y::k) m p q;cases e with
 |normal=>obtain⟨s,r,t,o,d⟩:=g b k m p q;exact⟨s,r,t,o, .of_steps (.head f stepR_seq c) d⟩
 |exit id=>exact⟨_,i,j,g, .of_steps (.one f stepR_seq) (.pass (x:= .code y) rfl (λ_ _=> .inl (by simp)) c)⟩
 |goto l=>exact⟨_,i,j,g, .of_steps (.one f stepR_seq) (.pass (x:= .code y) rfl (λ_ _=> .inl (by simp)) c)⟩
 |ret=>exact⟨_,i,j,g, .of_steps (.one f stepR_seq) (.pass (x:= .code y) rfl (λ_ _=> .inl (by simp)) c)⟩
 |panic ch=>exact⟨_,i,j,g, .of_steps (.one f stepR_seq) (.pass (x:= .code y) rfl (λ_ _=> .inl (by simp)) c)⟩
 |outgrown=>exact⟨_,i,j,g, .of_steps (.one f stepR_seq) (.pass (x:= .code y) rfl (λ_ _=> .inl (by simp)) c)⟩
theorem tT{id:Nat}{c:Code}(h:xv n P c (Exit.inBlock id Q) a w):xv n P (Code.block id c) Q a w:=by
 intro b k s t u;have f:(lone (b.atR a (.code (.block id c)::k)) s w).fenced P Fence.wide:=fenced_wide P _;obtain⟨e,j,p,i,d⟩:=h b (.inBlock id::k) s t u;cases e with
 |normal=>exact⟨.normal,j,p,i, .head f stepR_block (StepsIn.trans d (.one (fenced_wide P _) stepR_inBlock))⟩
 |exit id'=>
  by_cases g:id'=id
  ·simp only[Exit.inBlock,g,uf]at i;exact⟨.normal,j,p,i, .head f stepR_block (d.1 k (by simp[exitTo,g]))⟩
  ·simp only[Exit.inBlock,g,B6]at i;have this:(id==id')=false:=by simp;exact λh=>g h.symm
   have q:exitTo id' (.inBlock id::k)=exitTo id' k:=by simp[exitTo,this]
   exact⟨.exit id',j,p,i,λr m=> .head f stepR_block (d.1 r (by rw[q];exact m)),
    λo m=>let ⟨k₁,h1,h2⟩:=d.2 o (by rw[q];exact m);⟨k₁,h1, .head f stepR_block h2⟩⟩
 |goto l=>
  have q:gotoIn l (.inBlock id::k)=gotoIn l k:=by simp[gotoIn]
  exact⟨_,j,p,i,λr m=> .head f stepR_block (d.1 r (by rw[q];exact m)),
   λo m=>let ⟨k₁,h1,h2⟩:=d.2 o (by rw[q];exact m);⟨k₁,h1, .head f stepR_block h2⟩⟩
 |ret=>exact⟨_,j,p,i, .of_steps (.one f stepR_block) d⟩
 |panic ch=>exact⟨_,j,p,i, .of_steps (.one f stepR_block) d⟩
 |outgrown=>exact⟨_,j,p,i, .of_steps (.one f stepR_block) d⟩
theorem xX{f:FuncId}{fn:Func}{c:Code}{args:Array Value}{R:Ending->World->Prop}(n:Nat)
  (t:P.funcs[f]? =some fn) (A:fn.body=some c) (h:xv n P c (bodyPostM Fence.wide n P fn R) {tmps:=args++Array.replicate (fn.ntmps-args.size) undef,defers:= []} w):Calls P f args w R:=by
 refine(callsIn_wide (n:=n)).1 ⟨trivial,λx z=> ?_⟩
 let b:Frame:= {(default:Frame)with fn:=f,kind:= .normal,roundOf:=none}
 have m:Frame.enter P f args .normal=
   b.atR {tmps:=args++Array.replicate (fn.ntmps-args.size) undef,defers:= []} [.code c]:=by
  simp[Frame.enter,Frame.atR,t,A,b]
 obtain⟨e,p,y,q,d⟩:=h b [] x rfl ⟨fn,t⟩;rw[<-m]at d;cases e with
 |normal=>obtain⟨r,k,g,s,v,i,u⟩:=leaves_stepsInM p.defers .returning y {b.atR p []with mode:= .returning} x rfl rfl rfl t rfl trivial z q;exact⟨r,k,g,s,ComesIn.of_steps (StepsIn.trans d (.one (fenced_wide P _) (stepR_end rfl))) v,i,u⟩
 |ret=>obtain⟨j,o⟩:=d.1 rfl;obtain⟨r,k,g,s,v,i,u⟩:=leaves_stepsInM p.defers .returning y {b.atR p j with mode:= .returning} x rfl rfl rfl t rfl trivial z q;exact⟨r,k,g,s,ComesIn.of_steps o v,i,u⟩
 |panic chain=>obtain⟨j,o⟩:=d;obtain⟨r,k,g,s,v,i,u⟩:=leaves_stepsInM p.defers (.panicking chain) y {b.atR p j with mode:= .panicking chain} x rfl rfl rfl t rfl trivial z q;exact⟨r,k,g,s,ComesIn.of_steps o v,i,u⟩
 |exit id=>exact q.elim
 |goto l=>exact q.elim
 |outgrown=>exact⟨.outgrown,y,b,q,d.resolve_left (by simp[b]),rfl,trivial⟩
def Bo(P:Program)(l:Nat)(R:Ending->World->Prop):Exit->Act->World->Prop
 | .normal,_,w=> ∃v w',(Instr.endRound l none).run P w= .ok v w'/\R (.returned v) w'
 | .panic ch,a,w=>a.defers= []/\R (.panicked ch) w
 |_,_,_=>False
theorem xc{l:Nat}{f:FuncId}{tmps:Array Value}{d body:Code}{R:Ending->World->Prop}(y:∃fn,P.funcs[f]? =some fn)
  (h:d.wpIn (Fence.wide.inRound l) n P (Exit.then (λp z=> ∃r,(Instr.beginRound l).run P z= .ok () r/\body.wpIn (Fence.wide.inRound l) n P (Bo P l R) p r) (λ_ _ _=>False))
   {tmps:=tmps,defers:= []} w):
  RoundIn Fence.wide n P l f tmps d body w R:=by
 refine⟨trivial,λc q I=> ?_⟩
 let b:Frame:= {(default:Frame)with fn:=f,kind:= .normal,roundOf:=some l}
 have u:Frame.round l f tmps d body .normal=b.atR {tmps:=tmps,defers:= []} [.code d, .beginRound, .code body]:=by simp[Frame.round,Frame.atR,b]
 obtain⟨e,p,z,m,i⟩:=h b [.beginRound, .code body] (c::q) rfl trivial (room_wide _);rw[<-u]at i;cases e with
 |normal=>
  obtain⟨r,x,k⟩:=m;have A:StepsIn (Machine.fenced P Fence.wide) P (lone (b.atR p [.beginRound, .code body]) (c::q) z) (lone (b.atR p [.code body]) (c::q) r):=
   .one (fenced_wide P _) (stepR_beginRound rfl x)
  obtain⟨C,H,F,g,j⟩:=k b [] (c::q) rfl trivial (room_wide _);cases C with
  |normal=>obtain⟨v,G,o,s⟩:=g;exact⟨.returned v,G,s,(StepsIn.trans i A).trans (StepsIn.trans j (.one (fenced_wide P _) (stepR_round_end rfl rfl o)))⟩
  |panic chain=>obtain⟨D,s⟩:=g;obtain⟨B,E⟩:=j;exact⟨.panicked chain,F,s,(StepsIn.trans i A).trans (StepsIn.trans E (.one (fenced_wide P _) (step_leave_panicked ⟨rfl,D,y⟩)))⟩
  |ret=>exact g.elim
  |exit id=>exact g.elim
  |goto t=>exact g.elim
  |outgrown=>exact g.elim
 |exit id=>exact m.elim
 |goto t=>exact m.elim
 |ret=>exact m.elim
 |panic chain=>exact m.elim
 |outgrown=>exact m.elim
theorem tU{g:Operand}{C:Array Tmp}{i body:Code}
  (h:∀fn,(∃f,P.funcs[fn]? =some f)->∃(l:Nat) (c:List Deferred) (D:World) (d:Deferred) (r:World) (f:FuncId) (args:Array Value) (E:World),
   (Instr.enterLoop fn a.tmps C i body none).run P w= .ok (l,c) D/\
   (resolve a.eval (rangeCall g l) 0).run P D= .ok d r/\
   (invoke d.target d.args).run P r= .ok (.enter f args) E/\
   CallsIn Fence.wide (n-1) P f args E (λe y=>match e with
    | .returned _=> ∃x,(Instr.endLoop l).run P y= .ok none x/\Q .normal {a with defers:=c++a.defers} x
    | .panicked chain=>Q (.panic chain) {a with defers:=c++a.defers} y
    | .outgrown=>False)):
  xv n P (Code.rangeFunc g C i body) Q a w:=by
 intro b k cs B A;obtain⟨l,c,D,d,r,f,args,E,F,u,t,p⟩:=h b.fn A;rw[<-B]at F;have j:=stepR_rangeFunc (P:=P) (b:=b) (a:=a) (k:=k) (cs:=cs) (w:=w) F u t;obtain⟨e,y,I,z,o,G,m⟩:=p.2 (b.atR {a with defers:=c++a.defers} (.inRangeFunc l::k)::cs) (room_wide _);cases e with
 |outgrown=>exact z.elim
 |returned v=>
  obtain⟨x,s,H⟩:=z;have q:StepsIn (Machine.fenced P Fence.wide) P (lone (b.atR a (.code (.rangeFunc g C i body)::k)) cs w) (lone (b.atR {a with defers:=c++a.defers} k) cs x):=by refine .head (fenced_wide P _) j (StepsIn.trans o (.head (fenced_wide P _) ?_ (.one (fenced_wide P _) (stepR_endRangeFunc (k:=k) s))));rw[<-finish_atR_inRangeFunc l v];exact step_leave_returned m
  exact⟨.normal,_,x,H,q⟩
 |panicked chain=>refine⟨.panic chain,_,y,z, .inRangeFunc l::k, .head (fenced_wide P _) j (StepsIn.trans o (.one (fenced_wide P _) ?_))⟩;rw[<-Frame.raise_atR];exact step_leave_panicked m
def Qh{α:Type}(n:Nat)(P:Program)(gf:Nat)(lb:Array Value)(encs:α->Array Value)(F:Nat->Prop)(Nx:List α->α->Prop)(S:List α->Prop)(w:World):Prop:=
 ∀(l:Nat) (J:List α->World->Prop) (Jp:List PanicEntry->World->Prop) (W:World),Below w.heap.size w W->AbidesFrom W.heap.size J->
  (∀pre x W1,J pre W1->Nx pre x->YieldAt Fence.wide (n-1) P l (encs x) W1 λe W'=>(e= .returned (.bool true)/\J (pre++ [x]) W'/\aJ F W1 W')\/(∃ch,e= .panicked ch/\Jp ch W'))->
  J [] W->CallsIn Fence.wide n P gf (#[.func (.yield l) #[] #[]]++lb) W λe W'=>((∃v,e= .returned v)/\∃xs,S xs/\J xs W')\/(∃ch,e= .panicked ch/\Jp ch W')
def RA{α:Type}(B:Nat)(F:Nat->Prop)(I:List α->World->Prop)(Ip:List PanicEntry->World->Prop)(pre:List α)(W:World):Exit->Act->World->Prop
 | .normal,_,W'=>KeepsFrom B W W'/\aJ F W W'/\I pre W'
 | .panic ch,a,W'=>KeepsFrom B W W'/\a.defers= []/\Ip ch W'
 |_,_,_=>False
theorem yG{F:Nat->Prop}{d n0:Nat}{W:World}(b:∀k,n0<=k->F k)(f:n0<=d)(c:Loop):aJ F W (W.putObj (d+1) (.loop c)):=
 (aJ.refl F W).grown (grownBy_putObj' W (d+1) _) (λk e _=>by cases e;exact b _ (by omega))
theorem vO{α:Type}{g:Operand}{T:Array Tmp}{assign body:Code}
  {gf:Nat} {R:Array Value} (hg:a.eval g= .func (.func gf) #[] R) (eg:∀args w,(callFunc gf args).run P w= .ok (.enter gf args) w)
  {encs:α->Array Value} {F:Nat->Prop} {Nx:List α->α->Prop} {S:List α->Prop} (hF:∀k,w.heap.size<=k->F k) (O:Qh (n-1) P gf R encs F Nx S w) (bi:∀x,(encs x).size=T.size)
  (I:List α->World->Prop) (V:List PanicEntry->World->Prop) (G:OwnFrom w.heap.size I) (h0:I [] w) (a₁:α->Act)
  (d:∀(l:Nat) (x:α) (W:World) (K:Act->World->Prop),K (a₁ x) W->
   assign.wpIn (Fence.wide.inRound l) (n-1-1) P (Exit.then K (λ_ _ _=>False)) {tmps:=(T.zip (encs x)).foldl (λt (p,v)=>t.setIfInBounds p v) a.tmps,defers:= []} W)
  (q:∀(l:Nat) (c:List α) (x:α) (W:World),I c W->Nx c x->body.wpIn (Fence.wide.inRound l) (n-1-1) P (RA w.heap.size F I V (c++ [x]) W) (a₁ x) W)
  (u:∀(D:Nat) (U:List α) (W:World),w.heap.size<=D->S U->I U W->W.heap[D]? =some (.deferred (some []))->Q .normal {a with defers:= {target:= .collected D,args:= #[]}::a.defers} W)
  (h:∀(D:Nat) (i:List PanicEntry) (W:World),w.heap.size<=D->V i W->W.heap[D]? =some (.deferred (some []))->Q (.panic i) {a with defers:= {target:= .collected D,args:= #[]}::a.defers} W):
  xv n P (Code.rangeFunc g T assign body) Q a w:=by
 refine tU λfn Z=> ?_
 obtain⟨j,b⟩:=x_ (λst pe=> {state:=st,pending:=pe,fn,tmps:=a.tmps,params:=T,assign,body,defers:=w.heap.size}:LoopState->Option Code->Loop)
 have bk:lj w.heap.size (j .ready none) ((w.alloc (.deferred (some []))).alloc (.loop (j .ready none))):=⟨eY (by simp),bZ (eY rfl)⟩
 have Y:Below w.heap.size w ((w.alloc (.deferred (some []))).alloc (.loop (j .ready none))):=((Below.refl _ w).alloc (aL _) _).alloc (by simp) _;have E:∀(A:World) (row:Option Nat),(∀r,row=some r->((w.alloc (.deferred (some []))).alloc (.loop (j .ready none))).heap.size<=r/\∃o:Obj,A.heap[r]? =some o/\o.isWalk=true)->(∀r,row=some r->w.heap.size<=r/\∃o:Obj,A.heap[r]? =some o/\o.isCells=false):=
  λ_ _ N r e=>⟨by have:=(N r e).1;simp at this;omega,by obtain⟨_,o,ho,hw⟩:=N r e;exact⟨o,ho,Obj.not_cells_of_walk hw⟩⟩
 obtain⟨X,H⟩:=x_ ((w.alloc (.deferred (some []))).alloc (.loop (j .ready none)))
 rw[<-H]at bk Y E;refine⟨w.heap.size+1,[{target:= .collected w.heap.size,args:= #[]}],X,{target:= .fn (.func gf) R,args:= #[.func (.yield (w.heap.size+1)) #[] #[]]},X,gf, #[.func (.yield (w.heap.size+1)) #[] #[]]++R,X, ?_, ?_, ?_, ?_⟩
 ·rw[H,b];exact run_enterLoop_outer _ _ _ _ _
 ·simp only[resolve,hg];simp[go_sem]
 ·simp[invoke,go_sem,eg]
 refine(O (w.heap.size+1) (λc W=>I c W/\lj w.heap.size (j .ready none) W) (λi W=>V i W/\W.heap[w.heap.size]? =some (.deferred (some []))) _ Y
  (λs A B row hs L N=>⟨G s A B row hs.1 L (E _ _ N),lj.r8 s A B row hs.2 L N⟩) ?_ ⟨jg G h0 Y,bk⟩).mono ?_
 ·rintro c x W ⟨M,f⟩ hx;have hy:=run_yield (P:=P) (args:=encs x) f.loop (by rw[b];exact bi x);rw[b]at hy;refine⟨fn,_,assign,body,hy,xc Z (d _ x W _ ?_)⟩;refine⟨_,run_beginRound f.loop (by rw[b]), ?_⟩;have J:=f.put {j .ready none with state:= .busy};refine wpIn_mono (q _ c x _ (wS G f M _) hx) ?_;rintro e a3 W3 C;cases e with
  |normal=>
   obtain⟨z,an,y⟩:=C;have m:=J.bD z;have h9:=run_endRound (P:=P) none m.loop;refine⟨_,_,h9, .inl ⟨rfl,⟨wS G m y _, ?_⟩,((yG hF (aL _) _).trans an (λ_ _ g=>g)).trans (yG hF (aL _) _) (λ_ _ g=>g)⟩⟩
   have:=m.put (j .ready none);rw[b]at this⊢;exact this
  |panic i=>obtain⟨z,hd,y⟩:=C;exact⟨hd, .inr ⟨i,rfl,y,(J.bD z).mark⟩⟩
  |ret=>exact C.elim
  |exit id=>exact C.elim
  |goto t=>exact C.elim
  |outgrown=>exact C.elim
 ·rintro e W2 (⟨⟨v,rfl⟩,U,hS,M,f⟩|⟨i,rfl,M,f⟩)
  ·exact⟨_,by have:=run_endLoop (P:=P) f.loop (by rw[b];simp);rw[b]at this;exact this,u _ U _ (aL _) hS (wS G f M _) ((f.put _).mark)⟩
  ·exact h _ i _ (aL _) M f
end
end Go.Rf
namespace Go.Proofs.YtkmbmfengcdmoaaGreatDoor
open Go.RowKit Go.ay Go.Jn Go.Dk Go.Mp Go.Rf Go.Shelf
attribute [local go_sem] Oper.semAt_some

abbrev Ij (base k:Nat):Array Value:= #[.int .i64 ((base+k:Nat):Int), .int .i64 ((32*k:Nat):Int)]
theorem fL{F:Nat->Prop}{w w':World}{p:Addr}{v:Value}(h:w.cell? p=some v)(c:aJ F w w')(b: ¬F p.block):w'.cell? p=some v:=by have:=c.block p.block (World.block_lt_of_cell? w _ h) b;unfold World.cell? at*;rw[this];exact h
structure qF (W:World) (bl bo bh bj jb len off half size:Nat):Prop where
 l:W.cell? ⟨bl,0,none⟩=some (.int .i64 (len:Int))
 o:W.cell? ⟨bo,0,none⟩=some (.int .i64 (off:Int))
 h:W.cell? ⟨bh,0,none⟩=some (.int .i64 (half:Int))
 j:W.cell? ⟨bj,0,none⟩=some (.pointer (some ⟨jb,0,none⟩))
 s:W.cell? ⟨jb,4,none⟩=some (.int .i64 (size:Int))
theorem qF.bD{F:Nat->Prop}{W f:World}{bl e c d jb len off half size:Nat}(h:qF W bl e c d jb len off half size)(b:aJ F W f)(g: ¬F bl)(i: ¬F e)(k: ¬F c)(m: ¬F d)(p: ¬F jb):qF f bl e c d jb len off half size:=
 ⟨fL h.l b g,fL h.o b i,fL h.h b k,fL h.j b m,fL h.s b p⟩
theorem Dh{off len i:Nat}(b:i<(off+len+31) / 32-off / 32):(cW off len).take i++ [off / 32+i]=(cW off len).take (i+1):=by
 have c:(cW off len).length=(off+len+31) / 32-off / 32:=by unfold cW;rw[Qa]
 rw[M1 (by omega)];unfold cW;simp
set_option maxHeartbeats 4000000 in
theorem zy(m:Nat)(hm:1<=m)(l bl I t u jb:Nat)(F:Nat->Prop)(half off len size:Nat)(f1: ¬F bl)(f2: ¬F I)(f3: ¬F t)(f4: ¬F u)(f5: ¬F jb)
  (g1:half<=1) (g2:off<=1000000) (g3:len<=1000000) (g4:size<=100000) (J:List Nat->World->Prop) (E:List PanicEntry->World->Prop) (B:Nat) (hJ:AbidesFrom B J)
  (hY:∀q k W,J q W->q++ [k] <+:cW off len->YieldAt Fence.wide (m-1) Tryz.prog l (Ij (2+half*size) k) W λe b=>
   (e= .returned (.bool true)/\J (q++ [k]) b/\aJ F W b)\/(∃f,e= .panicked f/\E f b))
  (W:World) (c:qF W bl I t u jb len off half size) (h0:J [] W):
  CallsIn Fence.wide m Tryz.prog 224 #[.func (.yield l) #[] #[], .pointer (some ⟨bl,0,none⟩), .pointer (some ⟨I,0,none⟩), .pointer (some ⟨t,0,none⟩), .pointer (some ⟨u,0,none⟩)] W λe b=>
   ((∃v,e= .returned v)/\∃C,C=(if len=0 then []else cW off len)/\J C b)\/(∃f,e= .panicked f/\E f b):=by
 obtain⟨R,K⟩:=x_ (λe b=>((∃v,e= .returned v)/\∃C,C=(if len=0 then []else cW off len)/\J C b)\/(∃f,e= .panicked f/\E f b):Ending->World->Prop)
 rw[<-K];have N:Hid (∀v b,J (if len=0 then []else cW off len) b->R (.returned v) b):=λv b h=>by rw[K];exact .inl ⟨⟨_,rfl⟩,_,rfl,h⟩
 have FP:Hid (∀f b,E f b->R (.panicked f) b):=λf b h=>by rw[K];exact .inr ⟨_,rfl,h⟩
 clear K;have H0:=h_ h0;have HY:=h_ hY;have HC:=h_ c;clear h0 hY;obtain⟨Y,Z,x,c4,y⟩:=c;refine callsIn_of_wp Tryz.func224 rfl trivial ?_ rfl;simp only[Tryz.ntmps224,tY,kq,qA,Nat.reduceAdd,Nat.reduceSub,M0,MZ,M7,M6,xK,xC];by_cases L:len=0
 ·have t1:((len:Int)==0)=true:=by simp;omega
  have G:=h_ (N.out (.tuple #[]) W (by rw[if_pos L];exact H0.out))
  gi_wp2
  first
   |exact G.out
   |exact bodyPost_ret (results_none rfl _ _ _) rfl G.out
 ·have t1:((len:Int)==0)=false:=by simp;omega
  rw[if_neg L]at N;have HL:=h_ L;clear L
  gi_wp2
  gi_loopw [6] (λvk wr=> ∃i:Nat,vk= .int .i64 ((off / 32+i:Nat):Int)/\i<=(off+len+31) / 32-off / 32/\J ((cW off len).take i) wr/\qF wr bl I t u jb len off half size) (λvk _=>((off+len+31) / 32- (intOf vk).toNat))
  case atStart=>exact⟨0,by simp,gu _,H0.out,HC.out⟩
  case round=>
   clear Y Z x c4 y H0 HC;obtain⟨i,rfl,hi,z,hS⟩:=hrel;have O:=h_ z;have HS:=h_ hS;obtain⟨Y,Z,x,c4,y⟩:=hS;clear z;obtain⟨k,ek⟩:=x_ (off / 32+i)
   have D:=h_ ek;rw[<-ek];have hk:k<=100000:=by omega
   have ci:half*size<=100000:=by
    have:half=0\/half=1:=by omega
    rcases this with rfl|rfl<;>omega
   have d:(half:Int)*(size:Int)=((half*size:Nat):Int):=by simp
   have w3:IntKind.i64.wrap ((half:Int)*(size:Int))=(half:Int)*(size:Int):=by rw[IntWalk.i64_left,IntWalk.wrap64_in _ ⟨by rw[d];omega,by rw[d];omega⟩]
   have w4:IntKind.i64.wrap (2+(half:Int)*(size:Int))=2+(half:Int)*(size:Int):=by rw[IntWalk.i64_left,IntWalk.wrap64_in _ ⟨by rw[d];omega,by rw[d];omega⟩]
   have w5:IntKind.i64.wrap (2+(half:Int)*(size:Int)+(k:Int))=2+(half:Int)*(size:Int)+(k:Int):=by rw[IntWalk.i64_left,IntWalk.wrap64_in _ ⟨by rw[d];omega,by rw[d];omega⟩]
   have bi:Tryz.prog.follows .mixedOrders=true:=by kernel_rfl
   clear d;by_cases p:i<(off+len+31) / 32-off / 32
   ·have t2:decide ((k:Int)*32<(off:Int)+(len:Int))=true:=dt (by have:=HL.out;omega);clear ek;have e1:((2+half*size+k:Nat):Int)=2+(half:Int)*(size:Int)+(k:Int):=by simp
    have e2:((32*k:Nat):Int)=(k:Int)*32:=by omega
    have U:Hid ((cW off len).take i++ [k] <+:cW off len):=by show _ <+:_;rw[D.out,Dh p];exact List.take_prefix _ _
    have E1:=h_ e1;have E2:=h_ e2;clear e1 e2
    gi_wp2
    refine Free.gJ (.inl rfl) 12 [] (λM=>Below wr.heap.size wr M/\M.cell? ⟨t,0,none⟩=some (.int .i64 (half:Int))/\M.cell? ⟨u,0,none⟩=some (.pointer (some ⟨jb,0,none⟩))/\M.cell? ⟨jb,4,none⟩=some (.int .i64 (size:Int))) (by kernel_rfl) (by kernel_rfl) (by kernel_rfl) (Free.aW (λj mk r hf=>by cases hf)) ⟨(Below.refl _ _).drew,x,c4,y⟩ (λ_ _ h g=>⟨h.1.trans (Below.mono g h.1.size),aO h.2.1 g,aO h.2.2.1 g,aO h.2.2.2 g⟩) ?_;simp only[eJ,dT];clear Y Z x c4 y;iterate 12 (apply Free.ae (Free.wq rfl) rfl;(intro w' hB hA;obtain⟨qB,q1,q2,q3⟩:=hB;clear hA qB;go_light;go_simp<;>rfl);(try simp only[Pt]))
    apply Free.ax;intro w1 o _ _;simp only[fm,fo];obtain⟨fn,tmps,H,an,A,hR⟩:=HY.out _ k w1 (r8 hJ O.out o.1) U.out;have s:=h_ (HS.out.bD (F:=F) (aJ.aY o.1) f1 f2 f3 f4 f5);dsimp only[Ij]at A;rw[E1.out,E2.out]at A;have HR:=h_ hR;clear hR O HS o
    gi_wp2
    rw[A];refine⟨λ_=>hm,HR.out.mono ?_⟩;rintro e3 wy (⟨rfl,hJ3,hk3⟩|⟨f,rfl,hp3⟩)
    ·have S:Hid (J ((cW off len).take (i+1)) wy):=by have:=hJ3;rw[D.out,Dh p]at this;exact this
     have T:=h_ (s.out.bD hk3 f1 f2 f3 f4 f5);have X:Hid (Value.int .i64 ((k:Int)+1)= .int .i64 ((off / 32+(i+1):Nat):Int)):=by show _=_;rw[D.out];congr 1
     have V:Hid ((off+len+31) / 32- ((k:Int)+1).toNat<(off+len+31) / 32- (k:Int).toNat):=by show _<_;rw[D.out];omega
     clear hJ3 hk3 HR A U s w3 w4 w5
     gi_wp2
     go_roundw
     case rel=>exact⟨i+1,X.out,p,S.out,T.out⟩
     case measure=>exact V.out
    ·have G:=h_ (FP.out f wy hp3);clear HR A U
     gi_wp2
     exact⟨rfl,G.out⟩
   ·have t2:decide ((k:Int)*32<(off:Int)+(len:Int))=false:=dy (by omega);have G:=h_ (N.out (.tuple #[]) wr (by
     have:=O.out;rw[np (by unfold cW;rw[Qa];omega)]at this;exact this))
    clear x c4 y w3 w4 w5
    gi_wp2
    first
     |exact G.out
     |go_end0;exact G.out
     |exact bodyPost_ret (results_none rfl _ _ _) rfl G.out
theorem ml{w:World}(jb half off len:Nat):Calls Tryz.prog 170 #[.pointer (some ⟨jb,0,none⟩), .int .i64 (half:Int), .int .i64 (off:Int), .int .i64 (len:Int)] w λe w'=>
  e= .returned (.func (.func 224) #[] #[.pointer (some ⟨w.heap.size+3,0,none⟩), .pointer (some ⟨w.heap.size+2,0,none⟩), .pointer (some ⟨w.heap.size+1,0,none⟩), .pointer (some ⟨w.heap.size,0,none⟩)])/\
   w'=(((w.alloc (.cells #[.pointer (some ⟨jb,0,none⟩)] 101)).alloc (.cells #[.int .i64 (half:Int)] 3)).alloc (.cells #[.int .i64 (off:Int)] 3)).alloc (.cells #[.int .i64 (len:Int)] 3):=by
 have b:∀(fn:Fn) (first cap:Array Value) (w:World),(Instr.makeFunc fn first cap).run Tryz.prog w= .ok (.func fn first cap) w:=λ_ _ _ _=>rfl
 go_enter Tryz.func170,Tryz.ntmps170;go_wp2_with fail;go_ret;exact⟨rfl,rfl⟩
theorem rh(m bl e b d jb:Nat)(hm:1<=m)(F:Nat->Prop)(half off len size:Nat)(h: ¬F bl)(i: ¬F e)(j: ¬F b)(o: ¬F d)(p: ¬F jb)
  (q:half<=1) (r:off<=1000000) (s:len<=1000000) (t:size<=100000) (w:World) (c:qF w bl e b d jb len off half size):
  Qh m Tryz.prog 224 #[.pointer (some ⟨bl,0,none⟩), .pointer (some ⟨e,0,none⟩), .pointer (some ⟨b,0,none⟩), .pointer (some ⟨d,0,none⟩)] (Ij (2+half*size)) F (λf k=>f++ [k] <+:cW off len) (λz=>z=(if len=0 then []else cW off len)) w:=λl J g W x v y u=>
 zy m hm l bl e b d jb F half off len size h i j o p q r s t J g _ v y W (c.bD (F:=λ_=>False) (aJ.aY x) id id id id id) u
end Go.Proofs.YtkmbmfengcdmoaaGreatDoor
