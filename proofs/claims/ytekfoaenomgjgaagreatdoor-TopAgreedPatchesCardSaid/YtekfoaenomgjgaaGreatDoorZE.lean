/- The check of agreed spans. Condition: the variables of digest and strconv hold their numbers. -/
import Derived.Test.YtekfoaenomgjgaaGreatDoorQB
set_option maxRecDepth 100000
set_option linter.all false
namespace Go.Proofs.YtekfoaenomgjgaaGreatDoor
open Go.RowKit Go.W32 Go.Blk Go.Cs Go.Lib Go.Opn Go.Mg Go.Cv

theorem alloc7(W:World)(a0 a1 a2 a3 a4 a5 a6:Obj)(V:World)(e:V=((((((W.alloc a0).alloc a1).alloc a2).alloc a3).alloc a4).alloc a5).alloc a6):
  V.heap[W.heap.size]? =some a0/\V.heap[W.heap.size+1+1+1+1]? =some a4/\V.heap[W.heap.size+1+1+1+1+1]? =some a5/\V.heap[W.heap.size+1+1+1+1+1+1]? =some a6/\Below W.heap.size W V:=by
 have hb:Below W.heap.size W V:=by
  rw[e]
  exact(((((((Below.refl _ _).alloc (Nat.le_refl _) _).alloc (by simp) _).alloc (by simp;omega) _).alloc (by simp;omega) _).alloc (by simp;omega) _).alloc (by simp;omega) _).alloc (by simp;omega) _
 refine⟨?_, ?_, ?_, ?_,hb⟩<;>(rw[e];simp only[World.alloc,Array.getElem?_push,Array.size_push])
 ·rw[if_neg (by omega),if_neg (by omega),if_neg (by omega),if_neg (by omega),if_neg (by omega),if_neg (by omega),if_pos trivial]
 ·rw[if_neg (by omega),if_neg (by omega),if_pos trivial]
 ·rw[if_neg (by omega),if_pos trivial]
 ·rw[if_pos trivial]
def duM(n:Nat):ConM:=⟨2,[0,1],[],[⟨1,0,0, -1, -1,0,1⟩],[(duK 3,(none,0))],6,[],some ⟨n+1+1+1+1,0,none⟩,2,none,0,some ⟨n+1+1+1+1+1,0,none⟩,1,some ⟨n+1+1+1+1+1+1,0,none⟩,1,none,0⟩
theorem duM_at{V:World}{n:Nat}{a b c:TypeId}(h4:Row V (n+1+1+1+1) a [.int .i64 0, .int .i64 1])(h5:Row V (n+1+1+1+1+1) b (cP ⟨1,0,0, -1, -1,0,1⟩))(h6:Row V (n+1+1+1+1+1+1) c (aF (duK 3,(none,0)))):ConAt V (duM n):=
 ⟨Apl.sl_of_cells (fun _=>rfl) h4 (fun j u hj=>by simpa[duM,Cs.encI]using hj),SL.nil,Apl.sl_of_cells (fun _=>rfl) h5 (fun j u hj=>by simpa[duM]using hj),Apl.sl_of_cells (fun _=>rfl) h6 (fun j u hj=>by simpa[duM]using hj),SL.nil,fun k hk=>by
  simp only[duM,List.mem_singleton]at hk
  subst hk
  exact SL.nil⟩
def DuPost(W:World)(e:Ending)(w':World):Prop:=Below W.heap.size W w'/\∃c:ConM,e= .returned (.agg (ak c).toArray)/\c.con=duC 3/\ConAt w' c/\ConSz c
theorem duty_end{R:Ending->World->Prop}(W V:World)(tmps:Array Value)(h0:tmps.getD 0 undef= .pointer (some ⟨W.heap.size,0,none⟩))(a1 a2 a3:Obj)
  (eV:V=((((((W.alloc (.cells (ak (duM W.heap.size)).toArray 27)).alloc a1).alloc a2).alloc a3).alloc (.cells #[.int .i64 0, .int .i64 1] 3)).alloc (.cells (cP ⟨1,0,0, -1, -1,0,1⟩).toArray 98)).alloc (.cells (aF (duK 3,(none,0))).toArray 45))
  (hR:R=DuPost W):bodyPost Tryz.prog Tryz.f23 R .ret {tmps,defers:= []} V:=by
 obtain⟨h1,h4,h5,h6,hb⟩:=alloc7 W _ _ _ _ _ _ _ V eV
 refine bodyPost_ret (v:= .agg (ak (duM W.heap.size)).toArray) (Hk.results_cell_row (fn:=Tryz.f23) (p:=0) (ty:=27) rfl _ _ W.heap.size 27 (ak (duM W.heap.size)).toArray (0,0) _ h0 h1 Tryz.underlying27 rfl (by kernel_rfl)) rfl ?_
 rw[hR]
 exact⟨hb,duM W.heap.size,rfl,rfl,duM_at h4 h5 h6,(by decide:(2:Nat)<=9223372036854775807),(by decide:(0:Nat)<=9223372036854775807),(by decide:(1:Nat)<=9223372036854775807),(by decide:(1:Nat)<=9223372036854775807),(by decide:(0:Nat)<=9223372036854775807),Nat.le_refl 0,fun k hk=>by
  simp only[duM,List.mem_singleton]at hk
  subst hk
  decide⟩
set_option maxHeartbeats 1000000 in
theorem duty_any(W:World):Calls Tryz.prog 23 #[] W (DuPost W):=by
 obtain⟨R,eR⟩:∃R,R=DuPost W:=⟨_,rfl⟩
 rw[<-eR]
 have ER:=h_ eR
 clear eR
 go_enter Tryz.func23,Tryz.ntmps23
 go_wp2_with fail
 exact duty_end W _ _ rfl _ _ _ rfl ER.out
end Go.Proofs.YtekfoaenomgjgaaGreatDoor
namespace Go.Proofs.YtekfoaenomgjgaaGreatDoor
open Go.RowKit Go.W32 Go.Blk Go.Cs Go.Lib Go.Opn Go.Mg Go.Cv

theorem run_slice_two{P:Program}(w:World)(t e:TypeId)(i:TypeInfo)(z:Value)(ht:P.underlying t=some (.slice e))(hi:P.info? e=some i)(hz:i.zero=some z)(A B:List Value)(hA:A.length=i.size)(hB:B.length=i.size)(hs0:0<i.size)(hs1:i.size<=1000):
  (Instr.buildSlice t 2 #[(0, .agg A.toArray),(1, .agg B.toArray)]).run P w= .ok (.slice (some ⟨w.heap.size,0,none⟩) 2 2) (w.alloc (.cells (A++B).toArray e)):=by
 refine run_buildSlice w t e 2 _ (A++B).toArray i z ht hi hz (by omega) (by omega) ?_
 have zs:((Array.range (2*i.size)).map (z.cells[· % z.cells.size]!)).size=2*i.size:=by simp
 obtain⟨Z,eZ⟩:∃Z,Z=(Array.range (2*i.size)).map (z.cells[· % z.cells.size]!):=⟨_,rfl⟩
 rw[<-eZ]at zs⊢
 have zl:Z.toList.length=2*i.size:=by simp[zs]
 show Instr.fill _ Z [(0, .agg A.toArray),(1, .agg B.toArray)]=_
 rw[fill_step (n:=0) (off:=0) hA (by omega) (by omega) (z':=(Z.toList.take 0++A++Z.toList.drop (0+i.size)).toArray) (by simp)]
 have e2:(A++B)=(Z.toList.take 0++A++Z.toList.drop (0+i.size)).take i.size++B++(Z.toList.take 0++A++Z.toList.drop (0+i.size)).drop (i.size+i.size):=by
  rw[List.take_zero,List.nil_append,Nat.zero_add, <-hA,List.take_left,List.drop_append,List.drop_drop,List.drop_of_length_le (by omega),List.drop_of_length_le (by rw[zl];omega)]
  simp
 rw[fill_step (n:=0) (off:=i.size) hB (by omega) (by simp[zl,hA];omega) (z':=(A++B).toArray) (by simpa using e2)]
 rfl
theorem at_bs2{P:Program}{ops:Array Oper}{rest:List Oper}{a:Act}{Q:Exit->Act->World->Prop}(x:Operand){t:TypeId}{n:Nat}{y:Operand}{d:Option Tmp}{ty:TypeId}{ps:String}{af:Array Edge}{g:Option (Nat×Bool)}{w:World}
  (h:wpList P ops Q (⟨d, .buildSlice t n #[(0,x),(1,y)],ty,ps,af,g⟩::rest) a w):wpList P ops Q (⟨d, .buildSlice t n #[(0,x),(1,y)],ty,ps,af,g⟩::rest) a w:=h
theorem exec_slice2{P:Program}{o:Oper}{ρ:Operand->Value}{w w':World}{t:TypeId}{x y:Operand}{v:Value}(ho:o.op= .buildSlice t 2 #[(0,x),(1,y)])(h:(Instr.buildSlice t 2 #[(0,ρ x),(1,ρ y)]).run P w= .ok v w'):(execOp ρ o).run P w= .ok (.value v) w':=by
 unfold execOp
 simp[ho,h]
theorem exec_x{a:Act}{op:Oper}{w:World}{h:Hd}(x:Operand)(ho:op.op= .build 49 #[(0, .const (.int .i64 1)),(2, .const (.int .i64 1)),(3, .const (.int .i64 1)),(4, .const (.int .i64 2)),(5,x)])(hx:a.eval x= .agg (aw spanP h).toArray):
  (execOp a.eval op).run Tryz.prog w= .ok (.value (.agg (ay (x11,h)).toArray)) w:=by
 unfold execOp
 simp only[ho,hx,List.map_toArray,List.map_cons,List.map_nil]
 unfold aw
 go_simp
 rfl
theorem exec_y{a:Act}{op:Oper}{w:World}{D:ByteArray}(x:Operand)(ho:op.op= .build 49 #[(0, .const (.int .i64 2)),(1, .const (.int .i64 1)),(2, .const (.int .i64 1)),(3, .const (.int .i64 1)),(6,x)])(hx:a.eval x= .string D):
  (execOp a.eval op).run Tryz.prog w= .ok (.value (.agg (ay (y11 D,hd0)).toArray)) w:=by
 unfold execOp
 simp only[ho,hx,List.map_toArray,List.map_cons,List.map_nil]
 go_simp
 rfl
theorem span_at{w:World}{g:Nat}(h:Row w g 3 [.int .i64 0]):PatAt w spanP (hdW g):=
 ⟨Apl.sl_of_cells (fun _=>rfl) h (fun j u hj=>by simpa[spanP,Cs.encI]using hj),SL.nil⟩
theorem span_ok:PatOk spanP:=by
 refine⟨fun n hn=> ?_,by simp[spanP],by simp[spanP,Cls.zero]⟩
 simp[Pat.nums,spanP,Cls.nums,Cls.zero,Cls.front,Cls.back,b2i]at hn
 unfold bn
 omega
theorem x11_ok:LetOk x11:=⟨by unfold bn x11;simp,span_ok,by simp[x11];exact Nat.zero_le _⟩
theorem y11_ok(x:Let):LetOk (y11 (DG x)):=⟨by unfold bn y11;simp,zero_ok,by have:=DG_size x;show(DG x).size<=_;omega⟩
theorem in_11{c:ConM}{W1 w1:World}{e:Ending}{x:Pr×Hd}{h:Hd}{D:ByteArray}{day:Int}{a:Int}{ns:List Int}{m:Nat}(hm:ns.length=m)(hc:c.con=duC 3)(hx:x.1=⟨x11,h,D,1⟩)(hf:dp day (duC 3,[]) [⟨x11,h,D,1⟩]=(duC a,ns))(hp:IfPost c [x] day 9 W1 e w1):
  Below W1.heap.size W1 w1/\∃(c':ConM) (A:Option Addr) (k:Nat) (b o:Nat),e= .returned (.tuple #[.agg (ak c').toArray, .slice A m k, .int .i64 0])/\c'.kls.length=1/\c'.kA=some ⟨b,o,none⟩/\w1.cell? ⟨b,o+5,none⟩=some (.int .i64 a):=by
 obtain⟨hb,c',v,nums,rfl,hor⟩:=hp
 have ez:errA c.con [x].length=0:=by rw[hc];unfold errA;rw[if_pos errC_3];rfl
 rcases hor with⟨_,⟨pl,ho,hff⟩,how,hn,hown⟩|⟨h1,_⟩
 ·have hat:=how.at
  obtain⟨A,k,rfl⟩:=cz hown
  rw[ord_one ho (by rw[hx];exact(by decide:(1:Int)<=9)),hx,hc,hf]at hff
  have e1:c'.con=duC a:=congrArg Prod.fst hff
  have e2:nums=ns:=congrArg Prod.snd hff
  subst e2
  have e3:c'.kls.map Prod.fst= [duK a]:=congrArg Con.cls e1
  have hl:c'.kls.length=1:=by have h:=congrArg List.length e3;simpa using h
  obtain⟨b,o,hA⟩:=aC hat.k (by intro e;rw[e]at hl;cases hl)
  obtain⟨q,hq⟩:∃q,c'.kls[0]? =some q:=⟨_,List.getElem?_eq_getElem (by omega)⟩
  have hqa:q.1=duK a:=by
   have h:=congrArg (fun l=>l[0]?) e3
   simp only[List.getElem?_map,hq,Option.map_some]at h
   exact Option.some.inj h
  have hk:=hat.k
  rw[hA]at hk
  have hr:=az hk hq 5 (.int .i64 q.1.after) rfl
  rw[hqa,Nat.zero_mul,Nat.add_zero]at hr
  exact⟨hb,c',A,k,b,o,by rw[ez,hm],hl,hA,hr⟩
 ·exact absurd ez h1
set_option maxHeartbeats 4000000 in
theorem w11_any(W:World)(hT:HasT W):Calls Tryz.prog 6 #[] W fun e w'=>e= .returned (.bool true)/\Below W.heap.size W w':=by
 obtain⟨R,eR⟩:∃R:Ending->World->Prop,R=fun e w'=>e= .returned (.bool true)/\Below W.heap.size W w':=⟨_,rfl⟩
 rw[<-eR]
 have FIN:Hid (∀w',Below W.heap.size W w'->R (.returned (.bool true)) w'):=h_ fun w' hb=>by rw[eR];exact⟨rfl,hb⟩
 clear eR
 have HIL:Hid ((Tryz.prog.info? 49).map (·.size)=some 25):=by show _=_;kernel_rfl
 obtain⟨W2,e2⟩:∃W2,W2=W.alloc (.cells #[.int .i64 0] 3):=⟨_,rfl⟩
 have hb2:Below W.heap.size W W2:=by rw[e2];exact(Below.refl _ _).alloc (Nat.le_refl _) _
 have hg2:Row W2 W.heap.size 3 [.int .i64 0]:=by rw[e2];exact Row.new _ _ _
 have E2:Hid (W.alloc (.cells #[.int .i64 0] 3)=W2):=h_ e2.symm
 -- the proposal
 obtain⟨xs,exs⟩:∃xs,xs=ay (x11,hdW W.heap.size):=⟨_,rfl⟩
 have hxl:xs.length=25:=by rw[exs];rfl
 have hx1:∀v∈xs,v.oneCell'=true:=by rw[exs];exact cC _
 obtain⟨W3,e3⟩:∃W3,W3=W2.alloc (.cells xs.toArray 49):=⟨_,rfl⟩
 have hr3:Row W3 W2.heap.size 49 xs:=by rw[e3];exact Row.new _ _ _
 have hb3:Below W2.heap.size W2 W3:=by rw[e3];exact(Below.refl _ _).alloc (Nat.le_refl _) _
 have hbw3:=hb2.trans (hb3.mono hb2.size)
 have hg3:=hg2.below hb3 hg2.lt
 have CD:=h_ (dg_any (x11,hdW W.heap.size) W3 (hT.below hbw3 (Nat.le_refl _)) (span_at hg3) x11_ok)
 rw[<-exs]at CD
 have HIX:Hid ((Tryz.prog.info? 49).map (·.size)=some xs.length):=by show _=_;rw[hxl];exact HIL.out
 have HM3:Hid (W3.rangeAt W2.heap.size 0 xs):=h_ hr3.rg
 have HEX:Hid (∀ {a:Act} {op:Oper} {w:World},op.op= .build 49 #[(0, .const (.int .i64 1)),(2, .const (.int .i64 1)),(3, .const (.int .i64 1)),(4, .const (.int .i64 2)),(5, .tmp 11)]->a.eval (.tmp 11)= .agg (aw spanP (hdW W.heap.size)).toArray->(execOp a.eval op).run Tryz.prog w= .ok (.value (.agg xs.toArray)) w):=h_ fun ho hx=>by rw[exs];exact exec_x (.tmp 11) ho hx
 have HST3:=h_ (Sel.store_box HIX.out hx1 1 12 W2 W3 W2.heap.size rfl e3)
 have HT:=h_ hT
 have HR3:=h_ hr3
 have HG3:=h_ hg3
 have HBW3:=h_ hbw3
 have EXS:=h_ exs
 have HXL:=h_ hxl
 clear hT e2 hb2 hg2 exs hxl hx1 e3 hr3 hb3 hbw3 hg3
 go_enter Tryz.func6,Tryz.ntmps6
 go_wp2_with (first
  |(simp only[E2.out])
  |(refine at_bd (.tmp 11) ?_;refine Row.still rfl (HEX.out rfl rfl) ?_;simp only[Pt])
  |(refine ai (.tmp 1) ?_;refine HST3.out _ _ _ _ _ rfl rfl rfl rfl _ (by simp[HXL.out]) ?_;simp only[Pt])
  |(refine ae (.tmp 1) ?_;refine wpList_load_mid rfl 49 (.tmp 1) rfl W2.heap.size 0 rfl xs _ HM3.out Tryz.underlying49 rfl HIX.out ?_))
 refine CD.out.mono ?_
 rintro e w4 ⟨rfl,hb4⟩
 -- the acceptance
 obtain⟨D,eD⟩:∃D,D=DG x11:=⟨_,rfl⟩
 rw[<-eD]
 obtain⟨ys,eys⟩:∃ys,ys=ay (y11 D,hd0):=⟨_,rfl⟩
 have hyl:ys.length=25:=by rw[eys];rfl
 have hy1:∀v∈ys,v.oneCell'=true:=by rw[eys];exact cC _
 obtain⟨W5,e5⟩:∃W5,W5=w4.alloc (.cells ys.toArray 49):=⟨_,rfl⟩
 have hr5:Row W5 w4.heap.size 49 ys:=by rw[e5];exact Row.new _ _ _
 have hb5:Below w4.heap.size w4 W5:=by rw[e5];exact(Below.refl _ _).alloc (Nat.le_refl _) _
 have hb35:Below W3.heap.size W3 W5:=hb4.trans (hb5.mono hb4.size)
 have hbw5:=HBW3.out.trans (hb35.mono HBW3.out.size)
 have hx5:=HR3.out.below hb35 HR3.out.lt
 have hg5:=HG3.out.below hb35 HG3.out.lt
 obtain⟨i1,hi1,hz1,hs1,_⟩:=bG info_let
 obtain⟨W6,e6⟩:∃W6,W6=W5.alloc (.cells (xs++ys).toArray 49):=⟨_,rfl⟩
 have hb6:Below W5.heap.size W5 W6:=by rw[e6];exact(Below.refl _ _).alloc (Nat.le_refl _) _
 have hr6:Row W6 W5.heap.size 49 (xs++ys):=by rw[e6];exact Row.new _ _ _
 have hbw6:=hbw5.trans (hb6.mono hbw5.size)
 have HBS:Hid ((Instr.buildSlice 28 2 #[(0, .agg xs.toArray),(1, .agg ys.toArray)]).run Tryz.prog W5= .ok (.slice (some ⟨W5.heap.size,0,none⟩) 2 2) W6):=h_ (by
  rw[e6]
  exact run_slice_two W5 28 49 i1 _ Tryz.underlying28 hi1 hz1 xs ys (by rw[HXL.out,hs1]) (by rw[hyl,hs1]) (by rw[hs1];decide) (by rw[hs1];decide))
 obtain⟨l,el⟩:∃l:List Rl,l= [(x11,hdW W.heap.size),(y11 D,hd0)]:=⟨_,rfl⟩
 have hll:l.length=2:=by rw[el];rfl
 have hlets:LetsAt W6 (some ⟨W5.heap.size,0,none⟩) l:=by
  refine⟨?_, ?_, ?_⟩
  ·refine Apl.sl_of_cells (fun _=>rfl) hr6 (fun j u hj=> ?_)
   rw[el]at hj
   simp only[List.flatMap_cons,List.flatMap_nil,List.append_nil]at hj
   rw[<-eys, <-EXS.out]at hj
   simpa using hj
  ·intro q hq
   rw[el]at hq
   simp only[List.mem_cons,List.not_mem_nil,or_false]at hq
   rcases hq with rfl|rfl
   ·exact span_at (hg5.below hb6 hg5.lt)
   ·exact⟨SL.nil,SL.nil⟩
  ·intro q hq
   rw[el]at hq
   simp only[List.mem_cons,List.not_mem_nil,or_false]at hq
   rcases hq with rfl|rfl
   ·exact x11_ok
   ·rw[eD];exact y11_ok _
 have CA:=h_ (ag_any 2 (some ⟨W5.heap.size,0,none⟩) 2 l W6 (HT.out.below hbw6 (Nat.le_refl _)) hlets (by rw[hll];decide))
 rw[hll]at CA
 have HAG:Hid (df DG 2 l= [⟨x11,hdW W.heap.size,D,1⟩]):=h_ (by rw[el,eD];exact ag_11 DG _ _)
 have HIY:Hid ((Tryz.prog.info? 49).map (·.size)=some ys.length):=by show _=_;rw[hyl];exact HIL.out
 have HMX:Hid (W5.rangeAt W2.heap.size 0 xs):=h_ hx5.rg
 have HMY:Hid (W5.rangeAt w4.heap.size 0 ys):=h_ hr5.rg
 have HEY:Hid (∀ {a:Act} {op:Oper} {w:World},op.op= .build 49 #[(0, .const (.int .i64 2)),(1, .const (.int .i64 1)),(2, .const (.int .i64 1)),(3, .const (.int .i64 1)),(6, .tmp 14)]->a.eval (.tmp 14)= .string D->(execOp a.eval op).run Tryz.prog w= .ok (.value (.agg ys.toArray)) w):=h_ fun ho hx=>by rw[eys];exact exec_y (.tmp 14) ho hx
 have HST5:=h_ (Sel.store_box HIY.out hy1 2 15 w4 W5 w4.heap.size rfl e5)
 have HBW6:=h_ hbw6
 have HYL:=h_ hyl
 clear hb4 eD eys hyl hy1 e5 hr5 hb5 hb35 hbw5 hx5 hg5 hi1 hz1 hs1 e6 hb6 hr6 hbw6 el hll hlets CD HR3 HG3 HBW3 HM3 HEX HST3 EXS
 go_wp2_with (first
  |(refine at_bd (.tmp 14) ?_;refine Row.still rfl (HEY.out rfl rfl) ?_;simp only[Pt])
  |(refine ai (.tmp 2) ?_;refine HST5.out _ _ _ _ _ rfl rfl rfl rfl _ (by simp[HYL.out]) ?_;simp only[Pt])
  |(refine ae (.tmp 1) ?_;refine wpList_load_mid rfl 49 (.tmp 1) rfl W2.heap.size 0 rfl xs _ HMX.out Tryz.underlying49 rfl HIX.out ?_)
  |(refine ae (.tmp 2) ?_;refine wpList_load_mid rfl 49 (.tmp 2) rfl w4.heap.size 0 rfl ys _ HMY.out Tryz.underlying49 rfl HIY.out ?_)
  |(refine at_bs2 (.tmp 16) ?_;refine Row.moved rfl (exec_slice2 rfl HBS.out) ?_;simp only[Pt]))
 refine CA.out.mono ?_
 rintro e w7 ⟨hb7,A7,c7,am,rfl,k1,k2,k3,k4⟩
 rw[HAG.out]at k3
 obtain⟨q,rfl⟩:=List.length_eq_one_iff.1 (show am.length=1 by have h:=congrArg List.length k3;simpa using h)
 have hq:q.1=⟨x11,hdW W.heap.size,D,1⟩:=by simpa using k3
 have HQ:=h_ hq
 have K1:=h_ k1
 have K2:=h_ (k2 q List.mem_cons_self)
 have HB7:=h_ (HBW6.out.trans (hb7.mono HBW6.out.size))
 have D1:=h_ (duty_any w7)
 clear hb7 k1 k2 k3 k4 hq CA HAG HBW6 HIX HMX HMY HEY HST5 HBS HIY
 go_wp2_with fail
 refine D1.out.mono ?_
 rintro e w8 ⟨hb8,c1,rfl,hc1,hca1,hcz1⟩
 have CF:=gP c1 A7 c7 [q] 1 9 w8 hca1 hcz1 (K1.out.below hb8 (Nat.le_refl _)) (fun x hx=>by rw[List.mem_singleton]at hx;subst hx;exact K2.out.below hb8 (Nat.le_refl _)) (fun x hx=>by rw[List.mem_singleton]at hx;subst hx;rw[HQ.out];exact⟨span_ok,Nat.zero_le _⟩) (by simp)
 rw[show([q]:List (Pr×Hd)).length=1 from rfl]at CF
 have CF:=h_ CF
 have HC1:=h_ hc1
 have HB8:=h_ (HB7.out.trans (hb8.mono HB7.out.size))
 have HB78:=h_ hb8
 obtain⟨ds,eds⟩:∃ds,ds=ak c1:=⟨_,rfl⟩
 rw[<-eds]at CF⊢
 clear hb8 hca1 hcz1 hc1 eds D1
 go_wp2_with fail
 refine CF.out.mono ?_
 rintro e w9 hp9
 obtain⟨hb9,c2,A2,k2,b2,o2,rfl,hl2,hA2,hx2⟩:=in_11 (m:=0) rfl HC1.out HQ.out (force_1 _ _) hp9
 obtain⟨es,ees⟩:∃es,es=ak c2:=⟨_,rfl⟩
 have hel:es.length=7:=by rw[ees];rfl
 have he1:∀v∈es,v.oneCell'=true:=by rw[ees];exact aX _
 have he4:es[4]? =some (.slice (some ⟨b2,o2,none⟩) 1 c2.kc):=by rw[ees, <-hA2, <-hl2];rfl
 rw[<-ees]
 obtain⟨W10,e10⟩:∃W10,W10=w9.alloc (.cells es.toArray 27):=⟨_,rfl⟩
 have hr10:Row W10 w9.heap.size 27 es:=by rw[e10];exact Row.new _ _ _
 have hb10:Below w9.heap.size w9 W10:=by rw[e10];exact(Below.refl _ _).alloc (Nat.le_refl _) _
 have HST10:=h_ (Sel.store_box (aK es hel) he1 4 24 w9 W10 w9.heap.size rfl e10)
 have HEL:=h_ hel
 have HR10:=h_ hr10
 have HE4:=h_ he4
 have HX2:=h_ (ax hx2 hb10)
 have hb710:=HB78.out.trans ((hb9.trans (hb10.mono hb9.size)).mono HB78.out.size)
 have HB10:=h_ (HB7.out.trans (hb710.mono HB7.out.size))
 have K1':=h_ (K1.out.below hb710 (Nat.le_refl _))
 have K2':=h_ (K2.out.below hb710 (Nat.le_refl _))
 have D2:=h_ (duty_any W10)
 clear hb9 hp9 hl2 hA2 hx2 ees hel he1 he4 e10 hr10 hb10 hb710 CF HB78 K1 K2
 go_wp2_with (refine ai (.tmp 4) ?_;refine HST10.out _ _ _ _ _ rfl rfl rfl rfl _ (by simp[HEL.out]) ?_;simp only[Pt])
 refine D2.out.mono ?_
 rintro e w11 ⟨hb11,c3,rfl,hc3,hca3,hcz3⟩
 have CF:=gP c3 A7 c7 [q] 2 9 w11 hca3 hcz3 (K1'.out.below hb11 (Nat.le_refl _)) (fun x hx=>by rw[List.mem_singleton]at hx;subst hx;exact K2'.out.below hb11 (Nat.le_refl _)) (fun x hx=>by rw[List.mem_singleton]at hx;subst hx;rw[HQ.out];exact⟨span_ok,Nat.zero_le _⟩) (by simp)
 rw[show([q]:List (Pr×Hd)).length=1 from rfl]at CF
 have CF:=h_ CF
 have HC3:=h_ hc3
 have HB11:=h_ hb11
 obtain⟨gs,egs⟩:∃gs,gs=ak c3:=⟨_,rfl⟩
 rw[<-egs]at CF⊢
 clear hb11 hca3 hcz3 hc3 egs D2 HST10
 go_wp2_with fail
 refine CF.out.mono ?_
 rintro e w12 hp12
 obtain⟨hb12,c4,A4,k4,b4,o4,rfl,hl4,hA4,hx4⟩:=in_11 (m:=1) rfl HC3.out HQ.out (force_2 _ _) hp12
 obtain⟨fs,efs⟩:∃fs,fs=ak c4:=⟨_,rfl⟩
 have hfl:fs.length=7:=by rw[efs];rfl
 have hf1:∀v∈fs,v.oneCell'=true:=by rw[efs];exact aX _
 have hf4:fs[4]? =some (.slice (some ⟨b4,o4,none⟩) 1 c4.kc):=by rw[efs, <-hA4, <-hl4];rfl
 rw[<-efs]
 obtain⟨W13,e13⟩:∃W13,W13=w12.alloc (.cells fs.toArray 27):=⟨_,rfl⟩
 have hr13:Row W13 w12.heap.size 27 fs:=by rw[e13];exact Row.new _ _ _
 have hb13:Below w12.heap.size w12 W13:=by rw[e13];exact(Below.refl _ _).alloc (Nat.le_refl _) _
 have HST13:=h_ (Sel.store_box (aK fs hfl) hf1 7 31 w12 W13 w12.heap.size rfl e13)
 have HFL:=h_ hfl
 have hb1013:Below W10.heap.size W10 W13:=HB11.out.trans ((hb12.trans (hb13.mono hb12.size)).mono HB11.out.size)
 have p1:=(HR10.out.below hb1013 HR10.out.lt).at HE4.out
 have p2:=ax HX2.out hb1013
 have p3:=hr13.at hf4
 have p4:=ax hx4 hb13
 have HF:=h_ (FIN.out W13 (HB10.out.trans (hb1013.mono HB10.out.size)))
 clear hb12 hp12 hl4 hA4 hx4 efs hfl hf1 hf4 e13 hr13 hb13 hb1013 CF HB11 HR10 HE4 HX2
 go_wp2_with (refine ai (.tmp 7) ?_;refine HST13.out _ _ _ _ _ rfl rfl rfl rfl _ (by simp[HFL.out]) ?_;simp only[Pt])
 exact HF.out
end Go.Proofs.YtekfoaenomgjgaaGreatDoor
