/- Package file: the text of a fact. Condition: the variables of digest and of strconv hold their numbers. -/
import Derived.Test.YtkmbmfengcdmoaaGreatDoorZAR
import Derived.Test.YtkmbmfengcdmoaaGreatDoorZAA
import Derived.Test.YtkmbmfengcdmoaaGreatDoorApk
import Derived.Lib.BufferWrite
import Derived.Test.YtkmbmfengcdmoaaGreatDoorZAE
import Derived.Test.YtkmbmfengcdmoaaGreatDoorBlk
set_option maxRecDepth 100000
set_option linter.all false
namespace Go.Proofs.YtkmbmfengcdmoaaGreatDoor
open Go.RowKit Go.ay Go.Dk Go.Mp
def dK(w:World)(b bs bm n:Nat)(pv:Value)(d:DD)(v:Value)(e:Ending)(w':World):Prop:=
 e= .returned v/\∃bm' pv',aI w' b bs bm' pv' d n/\aJ (Fp b bs bm pv) w w'/\(bm'=bm\/w.heap.size<=bm')/\(∀k,pv'.ownBlock=some k->pv.ownBlock=some k\/w.heap.size<=k)/\(v= .int .i64 0->bm'=bm)
theorem sx{w:World}{b bs bm n:Nat}{pv:Value}{d:DD}(h:aI w b bs bm pv d n)(v:Value):dK w b bs bm n pv d v (.returned v) w:=⟨rfl,bm,pv,h,aJ.refl _ _, .inl rfl,λ_ h=> .inl h,λ_=>rfl⟩
theorem dK.less{w w':World}{b bs bm n:Nat}{pv v:Value}{d:DD}{e:Ending}(h:dK w b bs bm n pv d v e w'):eM w b bs bm n pv d v e w':=by obtain⟨f,a,c,g,i,j,k,_⟩:=h;exact⟨f,a,c,g,i,j,k⟩
theorem QU:(Tryz.prog.info? 203).map (λi=>(i.zero,i.size,i.bytes))=some (some (.agg (Array.mk (.int .i64 0::List.replicate 32 (.int .u8 0)))),33,40):=by kernel_rfl
section
variable {w:World} {b bs bm n:Nat} {pv:Value} {d:DD}
def zw(s:Int):Array Value:= #[.int .i64 s, .int .u8 0, .int .u8 0, .int .u8 0, .int .u8 0, .int .u8 0, .int .u8 0, .int .u8 0, .int .u8 0, .int .u8 0, .int .u8 0, .int .u8 0, .int .u8 0, .int .u8 0, .int .u8 0, .int .u8 0, .int .u8 0, .int .u8 0, .int .u8 0, .int .u8 0, .int .u8 0, .int .u8 0, .int .u8 0, .int .u8 0, .int .u8 0, .int .u8 0, .int .u8 0, .int .u8 0, .int .u8 0, .int .u8 0, .int .u8 0, .int .u8 0, .int .u8 0]
theorem PF(s:Int):(zw s).all (·.oneCell')=true:=by simp[zw,Value.oneCell']
theorem rV(s:Int):(zw s).size=33:=rfl
theorem M9(s:Int):(Tryz.prog.info? 203).map (·.size)=some (zw s).size:=by rw[rV];kernel_rfl
theorem Na(s:Int):(zw s).toList= .int .i64 s::List.replicate 32 (.int .u8 0):=rfl
theorem uy(W:World)(m:Nat)(t:ByteArray)(h:t.size=32)(ty:TypeId):(Builtin.copy_ #[117,9] ty #[.slice (some ⟨W.heap.size,1,none⟩) 32 32, .string t]).run Tryz.prog (W.alloc (.cells (zw m) 203))=
  .ok (goInt 32) (W.alloc (.cells (bu (m,t.data.toList)).toArray 203)):=by
 have a:=Lib.run_copy_row_string (P:=Tryz.prog) (W.alloc (.cells (zw m) 203)) 117 9 ty 5 W.heap.size 1 32 32 t (zw m) 203 Tryz.underlying117 (by kernel_rfl) (heap_alloc_last W _) (by omega) (by rw[rV];omega);rw[a,World.setRow_alloc_new,h];congr 3;rw[Na];have c:t.data.toList.length=32:=by simpa using h
 simp[bu,Lib.byteCells,C8]
def rZ(g o:Nat)(E:List Value)(sz:Nat)(w w':World):Prop:=
 aJ (λk=>k=g) w w'/\∀cc:Array Value,w.heap[g]? =some (.cells cc 203 (0,0))->cc.size=sz->w'.heap[g]? =some (.cells cc 203 (0,0))\/w'.heap[g]? =some (.cells (Apk.nU cc o E) 203 (0,0))
theorem rZ.refl(g o:Nat)(E:List Value)(a:Nat)(w:World):rZ g o E a w w:=⟨aJ.refl _ _,λ_ h _=> .inl h⟩
theorem rZ.trans{g o:Nat}{E:List Value}{j:Nat}(p:∀e:Array Value,e.size=j->o+E.length<=e.size)(a b c:World)(h:rZ g o E j a b)(k:rZ g o E j b c):rZ g o E j a c:=
 ⟨h.1.trans k.1 (λ_ _ f=>f),λe q i=>by
  rcases h.2 e q i with l|l
  ·exact k.2 e l i
  ·rcases k.2 _ l (by rw[Apk.fH _ _ _ (p e i)];exact i)with m|m
   ·exact .inr m
   ·exact .inr (by rw[m,Apk.rT _ _ _ (p e i)])⟩
theorem JN{g o:Nat}{E:List Value}{c:Nat}{w w':World}(h:Below w.heap.size w w'):rZ g o E c w w':=
 ⟨aJ.aY h,λ_ a _=> .inl ((h.block g (iS.1 a).1).trans a)⟩
theorem MD{g o:Nat}{E:List Value}{f:Nat}{w:World}{a:Array Value}(e:w.heap[g]? =some (.cells a 203 (0,0))):rZ g o E f w (w.setRow g (Apk.nU a o E)):=
 ⟨(aJ.refl (λk=>k=g) w).setRow (λ_=>rfl) _,λh c _=>by rw[e]at c;cases c;exact .inr (setRow_heap w g a _ 203 _ e)⟩
theorem oC{P:Program}{o:Oper}{ρ:Operand->Value}{w:World}{ty:TypeId}{x:Operand}{g:Nat}{t:TypeId}{cs:List Value}{a:TypeDesc}(h:o.op= .load ty x)(j:ρ x= .pointer (some ⟨g,0,none⟩))(e:ay w g cs t)
  (i:P.underlying ty=some a) (c:(match a with| .struct _| .array _ _=>true|_=>false)=true) (f:(P.info? ty).map (·.size)=some cs.toArray.size):(execOp ρ o).run P w= .ok (.value (.agg cs.toArray)) w:=by
 unfold execOp;simp only[h,j,Instr.loadAt,Instr.sureAddr,Sem.run_bind,Sem.run_pure,Result.andThen_ok,run_loadVar_row w g t ty cs.toArray (0,0) a e i c f]
theorem fB{P:Program}{o:Oper}{ρ:Operand->Value}{w w':World}{t:TypeId}{x:Operand}{v:Value}(a:o.op= .buildSlice t 1 #[(0,x)])(h:(Instr.buildSlice t 1 #[(0,ρ x)]).run P w= .ok v w'):(execOp ρ o).run P w= .ok (.value v) w':=by unfold execOp;simp[a,h]
theorem dL{P:Program}{o:Oper}{ρ:Operand->Value}{w w':World}{t:TypeId}{s x:Operand}{u y v:Value}(a:o.op= .call {callee:= .builtin .append,args:= #[s,x],argTypes:= #[t,t]})(c:ρ s=u)(e:ρ x=y)
  (h:(Builtin.append_ #[t,t] o.type #[u,y]).run P w= .ok v w'):(execOp ρ o).run P w= .ok (.value v) w':=by
 unfold execOp;simp only[a,resolve,invoke,builtin,Sem.run_bind,Sem.run_pure,Result.andThen_ok,List.map_toArray,xJ,NP,c,e,h]
set_option maxHeartbeats 2000000 in
theorem tV(h:aI w b bs bm pv d n)(s:Int)(t:ByteArray)(g7:d.aF.length<1000000):
  Calls Tryz.prog 190 #[.pointer (some ⟨b,0,none⟩), .int .i64 s, .string t] w (dK w b bs bm n pv (DD.write n d s t.data.toList).1 (.int .i64 (DD.write n d s t.data.toList).2)):=by
 have c0:=h.bg.ag 0 _ rfl;have an:t.data.toList.length=t.size:=by simp
 cases hon:d.on with
 |false=>
  have V:DD.write n d s t.data.toList=(d,21):=by simp[DD.write,hon]
  rw[V];rw[hon]at c0;have T:=h_ (sx h (.int .i64 21));clear V h hon an;go_enter Tryz.func190,Tryz.ntmps190
  go_wp2
  go_ret;exact T.out
 |true=>
  rw[hon]at c0;have H1:=h_ (CZ h s);cases R:DD.hasB n s with
  |false=>
   have V:DD.write n d s t.data.toList=(d,1):=by simp[DD.write,hon,R]
   rw[V];rw[R]at H1;have T:=h_ (sx h (.int .i64 1));clear V h hon R an;go_enter Tryz.func190,Tryz.ntmps190;go_wp2_with fail;refine H1.out.mono ?_;rintro e w' ⟨rfl,rfl⟩;go_wp2_with fail;go_ret;exact T.out
  |true=>
   by_cases co:t.size=32
   ·have V:DD.write n d s t.data.toList=if d.dh then((d.push s t.data.toList).fail d.writes d.bytes,21)else((d.push s t.data.toList).tick,0):=by simp[DD.write,hon,R,an,co]
    rw[R]at H1;have hs:=R;simp[DD.hasB]at hs;obtain⟨m,rfl⟩:∃m:Nat,s=m:=⟨s.toNat,by omega⟩
    have qr:((t.size:Int) !=32)=false:=by simp;omega
    have z':t.size<=32:=by omega
    have An:32<=t.size:=by omega
    have m9:=h_ co;have m7:=h_ (h.ok.push (s:=(m:Int)) (t:=t.data.toList) R (by omega) g7);have E2:=h_ V;have T:=h_ h;clear V hon R hs h an co;go_enter Tryz.func190,Tryz.ntmps190;go_wp2_with fail;refine H1.out.mono ?_;rintro e w' ⟨rfl,rfl⟩;clear H1;have ut:=uy w m t m9.out 3;go_wp2_with (with_reducible refine wpList_store_row rfl 203 (.tmp 7) (.tmp 26) rfl w.heap.size (zw m) rfl rfl 203 (zw 0) (heap_alloc_last w _) (M9 m) ((rV 0).trans (rV m).symm) (PF m) ?_;rw[World.setRow_alloc_new])
    clear ut;obtain⟨x,ex⟩:=x_ ((m,t.data.toList):Nat×List UInt8)
    rw[<-ex];have HE:=h_ (show(bu x).length=33 by rw[ex];exact lS (by simpa using m9.out));have HX:=h_ ex;clear ex;obtain⟨A,c,a⟩:=wV T.out;have i9:=h_ a;have no:=T.out.alloc (.cells (bu x).toArray 203);have f8:=h_ no;have ip:=h_ (ay.new w (bu x) 203);have m6:=h_ ((aJ.refl (Fp b bs bm pv) w).alloc (.cells (bu x).toArray 203));obtain⟨L,eL⟩:=x_ d.aF.length
    rw[<-eL]at a g7;have EL:=h_ eL;clear no eL;have k3:=f8.out.bg.drew.ag 3 _ rfl;have k2:=f8.out.bg.drew.ag 2 _ rfl;rw[a]at k2;clear a;refine Free.ai 10 [] (λo=>o.cell? ⟨b,3,none⟩=some (.map (some bm))/\o.cell? ⟨b,2,none⟩=some (.slice A L c)) (by kernel_rfl) (by kernel_rfl) ?_ ⟨k3,k2⟩ (λ_ _ h g=>⟨df h.1 g,df h.2 g⟩) ?_
    ·intro j mk r l;simp only[Free.find]at l;cases l
    simp only[eJ,dT];clear k3 k2 c0;iterate 10 (apply Free.ae (Free.wq rfl) rfl;(intro w' D J;obtain⟨q0,q1⟩:=D;clear J;go_light;go_simp<;>rfl);(try simp only[Pt]))
    apply Free.ax;intro Y _ hg _;simp only[fm,fo];have hz:=fC hg;have Dz:=h_ (f8.out.below hz);have Bz:=h_ (ip.out.below hz ip.out.lt);have Kz:=h_ (m6.out.trans (G:=λ_=>False) (aJ.aY hz) (λ_ _ f=>f.elim));clear hg hz f8 ip m6;refine xy (b:=bm) rfl (.tmp 34) (.tmp 35) (.tmp 40) rfl Dz.out.map Tryz.underlying132 Tryz.underlying3 (m:Int) (L:Int) rfl rfl rfl ?_;intro w4 py lw;have z:∀k,k<Y.heap.size->k≠bm->w4.heap[k]? =Y.heap[k]? :=λk M hn=>lw.block k M (λe=>hn (by injection e))
    have M4:Hid (bL w4 bm (fR (d.push (m:Int) t.data.toList).aF)):=by
     show bL _ _ _;have e:fR (d.push (m:Int) t.data.toList).aF=λy=>if y=(m:Int)then some (L:Int)else fR d.aF y:=by show fR (d.aF++ [((m:Int).toNat,t.data.toList)])=_;rw[qP,EL.out];rfl
     rw[e];exact py
    have P4:=h_ (Dz.out.bg.bG (z b Dz.out.bg.lt (nq Dz.out.Sw)));have S4:=h_ (Dz.out.st.bG (z bs Dz.out.st.lt (nq Dz.out.TM)));have R4:=h_ (bC Dz.out.row (λk e=>z k (Dz.out.row.lt k e).2 (λe'=>nJ Dz.out.row Dz.out.map (by rw[<-e'];exact e))));have B4:=h_ (Bz.out.bG (z _ Bz.out.lt (by have:=T.out.map.lt;omega)));have K4:=h_ (Kz.out.grown lw (λk e _=>by cases e;exact .inr (.inr (.inl rfl))));clear py lw z Dz Bz Kz;simp only[Act.put];obtain⟨xs,kw⟩:=x_ (d.aF.flatMap bu)
    rw[<-kw, <-EL.out]at R4;have io:=h_ kw;have a:=i9.out;rw[<-EL.out]at a;have N:=h_ a;have ii:(d.push (m:Int) t.data.toList).aF.flatMap bu=xs++bu x:=by rw[io.out,HX.out];show(d.aF++ [((m:Int).toNat,t.data.toList)]).flatMap bu=_;simp
    have gc:=h_ ii;have n8:(d.push (m:Int) t.data.toList).aF.length=L+1:=by rw[EL.out];simp[DD.push]
    have f9:=h_ n8;obtain⟨i0,hi,rt,rx,sm⟩:=info_parts QU;have HI:=h_ hi;have bi:=h_ rt;have I:=h_ rx;have i':=h_ sm;have At:=h_ T.out.bg.lt;clear kw a ii n8 hi rt rx sm;by_cases U:∃g i,pv= .slice (some ⟨g,0,none⟩) L i/\L+1<=i
    ·obtain⟨g,i,a,d6⟩:=U;obtain⟨ci,gt,lm,pl,ro⟩:∃ci,w4.heap[g]? =some (.cells ci 203 (0,0))/\i<=maxLen/\ci.size=i*33/\ci.toList.take (L*33)=xs:=by
      obtain⟨_,h0|⟨g',nl,ge,e',_,h2,_,W,h5,h6⟩⟩:=R4.out
      ·rw[a]at h0;cases h0.1
      ·rw[a]at e';injection e' with e1 _ O;injection e1 with e1;injection e1 with e1;subst e1 O;exact⟨ge,h2,W,h5,h6⟩
     have ul:A=some ⟨g,0,none⟩/\c=i:=by have:=N.out;rw[a]at this;injection this with e1 _ O;exact⟨e1.symm,O.symm⟩
     obtain⟨rfl,rfl⟩:=ul;have pu:g≠b:=λe=>iM R4.out P4.out (by decide) (by rw[a, <-e];rfl)
     have wn:g≠bs:=λe=>iM R4.out S4.out (by decide) (by rw[a, <-e];rfl)
     have v6:g≠bm:=λe=>nJ R4.out M4.out (by rw[a, <-e];rfl)
     have By:g<w.heap.size:=by have:=(T.out.row.lt g (by rw[a];rfl)).2;exact this
     have g8:∀B:Array Value,B.size=c*33->L*33+(bu x).length<=B.size:=λB e=>by rw[e,HE.out];omega
     have K:=h_ g8;have i8:=h_ a
     letI:Fre2.Rel:=⟨rZ g (L*33) (bu x) (c*33),rZ.refl _ _ _ _,rZ.trans K.out⟩
     have k2:=P4.out.drew.ag 2 _ rfl;rw[a]at k2;clear g8 a;go_wp2_with fail;refine Fre2.ai 10 [(6, .ind (λg6=> .slice (some ⟨g6,0,none⟩) 1 1) (λg6 o=>ay o g6 (bu x) 203/\g6≠g)),(7, .ind (λ_=> .slice (some ⟨g,0,none⟩) (L+1) c) (λ_ o=> ∃B:Array Value,o.heap[g]? =some (.cells (Apk.nU B (L*33) (bu x)) 203 (0,0))/\B.size=c*33/\B.toList.take (L*33)=xs))]
      (λo=>o.cell? ⟨b,2,none⟩=some (.slice (some ⟨g,0,none⟩) L c)/\ay o w.heap.size (bu x) 203/\(∃B:Array Value,o.heap[g]? =some (.cells B 203 (0,0))/\B.size=c*33/\B.toList.take (L*33)=xs)/\w4.heap.size<=o.heap.size) (by kernel_rfl) (by kernel_rfl) ?_ ⟨k2,B4.out.drew,⟨ci,gt,pl,ro⟩,aL _⟩
      (λw1 o h r=> ?_) ?_
     ·intro j mk r l y w1 o hr rr;obtain⟨rk,rc⟩:=rr;simp only[Free.find]at l
      repeat' split at l
      ·cases l;exact⟨hr.1.bG (rk.block _ hr.1.lt hr.2),hr.2⟩
      ·cases l
       obtain⟨B,h1,h2,h3⟩:=hr;refine⟨B, ?_,h2,h3⟩;rcases rc _ h1 (by rw[Apk.fH _ _ _ (K.out B h2)];exact h2)with W|W
       ·exact W
       ·rw[W,Apk.rT _ _ _ (K.out B h2)]
      ·cases l
     ·obtain⟨rk,rc⟩:=r;obtain⟨h1,h2,⟨B,h3,W,h5⟩,h6⟩:=h;refine⟨?_,h2.bG (rk.block _ h2.lt (by omega)), ?_,fO h6 rk.size⟩
      ·rw[World.cell?_of_block (rk.block b (World.block_lt_of_cell? w1 _ h1) (nq pu))];exact h1
      ·rcases rc _ h3 W with C|C
       ·exact⟨B,C,W,h5⟩
       ·exact⟨_,C,by rw[Apk.fH _ _ _ (K.out B W)];exact W,by rw[Apk.tK _ _ _ (K.out B W)];exact h5⟩
     simp only[eJ,dT];clear k2;iterate 6 (first|(apply Fre2.ae rfl rfl;(intro w' D J;exact oC rfl (by rfl) D.2.1 Tryz.underlying203 rfl (by rw[tY,HE.out];kernel_rfl));simp only[Pt])|(apply Fre2.ae (Free.wq rfl) rfl;(intro w' D J;obtain⟨q0,q1,q2,q3⟩:=D;clear J q1 q2 q3;go_light;go_simp<;>rfl);(try simp only[Pt])))
     apply Fre2.aR rfl rfl
     ·intro w' D J;refine Free.cq (v:= .slice (some ⟨w'.heap.size,0,none⟩) 1 1) (w':=w'.alloc (.cells (bu x).toArray 203)) ?_ ⟨JN ((Below.refl _ _).alloc (aL _) _),w'.heap.size,rfl,ay.new w' (bu x) 203, ?_⟩
      ·have hb:=Apk.fj (P:=Tryz.prog) w' 133 203 i0 _ Tryz.underlying133 HI.out bi.out (bu x).toArray (by rw[tY,HE.out,I.out]) (by rw[I.out];decide) (by rw[I.out];decide);exact fB rfl hb
      ·have:=D.2.1.lt;omega
     intro g6;simp only[Pt];iterate 1 (apply Fre2.aR rfl rfl;(intro w' D J;have h6:ay w' g6 (bu x) 203/\g6≠g:=J _ dH (by kernel_rfl);obtain⟨_,_,⟨B,h3,W,h5⟩,_⟩:=D;have d9:=Apk.lJ (P:=Tryz.prog) w' 133 133 203 i0 33 Tryz.underlying133 HI.out I.out g L c B h3 ⟨g6,0,none⟩ 1 1 (bu x) (by rw[HE.out]) (λj u hu=>by rw[addr_add,nW];exact h6.1.ag j u hu) (λu hu=>lT u hu) d6 W;refine Free.cq (v:= .slice (some ⟨g,0,none⟩) (L+1) c) (w':=w'.setRow g (Apk.nU B (L*33) (bu x))) ?_ ⟨MD h3,0,rfl,B,setRow_heap w' g B _ 203 _ h3,W,h5⟩;exact dL (s:= .tmp 45) (x:= .tmp 47) rfl rfl rfl d9))
     intro y;simp only[Pt];iterate 2 (apply Fre2.ae (Free.wq rfl) rfl;(intro w' D J;obtain⟨q0,q1,q2,q3⟩:=D;clear J q0 q1 q2 q3;go_light;go_simp<;>rfl);(try simp only[Pt]))
     apply Fre2.ax;intro Y ld hg R;have C:=R _ dH;simp only at C;obtain⟨B,ol,li,pi⟩:=C;obtain⟨hz,_⟩:aJ (λk=>k=g) w4.drew Y/\_:=hg;have Pz:=P4.out.drew.bG (hz.block b P4.out.lt (nq pu));have f2:=Pz.frozen 2;have c2:=Pz.ag 2 _ rfl;have X:(xs++bu x).length=(L+1)*33:=by rw[fu,R4.out.1,HE.out,Nat.add_mul]
     have H:Y.ownsRow 0 203 33 (.slice (some ⟨g,0,none⟩) (L+1) c) (L+1) (xs++bu x):=by refine⟨X, .inr ⟨g,c,_,rfl,gu _,ol,d6,lm,by rw[Apk.fH _ _ _ (K.out B li)];exact li, ?_⟩⟩;unfold Apk.nU;rw[pi,P7 (by rw[X];exact aL _),np (by rw[X];exact aL _)]
     have D6:Hid (aI (Y.setCell ⟨b,2,none⟩ (.slice (some ⟨g,0,none⟩) (L+1) c)) b bs bm (.slice (some ⟨g,0,none⟩) (L+1) c) (d.push (m:Int) t.data.toList) n):=by
      show aI _ _ _ _ _ _ _;have z:∀k,k≠b->(Y.setCell ⟨b,2,none⟩ (.slice (some ⟨g,0,none⟩) (L+1) c)).heap[k]? =Y.heap[k]? :=λk M=>Below.heap_setCell Y ⟨b,2,none⟩ _ k M
      refine⟨m7.out,Pz.set 2 _,(S4.out.drew.bG (hz.block bs S4.out.lt (nq wn))).bG (z bs T.out.PN), ?_,(M4.out.bD (hz.block bm M4.out.lt (nq v6))).bD (z bm T.out.Sw)⟩;rw[f9.out,gc.out];exact bC H (λk e=>z k (by
        have:g=k:=by simpa[Value.ownBlock]using e
        omega))
     have K6:=h_ ((K4.out.drew.trans (G:=λk=>k=g) hz (λk _ f=>by subst f;exact .inr (.inr (.inr (by rw[i8.out];rfl))))).setCell (p:=⟨b,2,none⟩) (λ_=> .inl rfl) (.slice (some ⟨g,0,none⟩) (L+1) c));have E:Hid (∀k,(Value.slice (some ⟨g,0,none⟩) (L+1) c).ownBlock=some k->pv.ownBlock=some k\/w.heap.size<=k):=λk e=> .inl (by
      rw[i8.out];exact e)
     simp only[fm,fo];clear ld R H hz Pz i9 N P4 S4 R4 M4 B4 K4 gc f9 HI bi I i' io ol li pi gt pl ro X i8;have Z:=h_ (qc D6.out);have mt:=D6.out.ok.w0;have m4:=D6.out.ok.w1;cases l:d.dh with
     |true=>
      have q:(d.push (m:Int) t.data.toList).dh=true:=l;rw[q,nP _ q]at Z;have O:DD.write n d (m:Int) t.data.toList=((d.push (m:Int) t.data.toList).fail d.writes d.bytes,21):=by rw[E2.out,l];rfl
      have E3:=h_ O;clear O l q;go_wp2_with fail;refine Z.out.mono ?_;rintro e w7 ⟨rfl,C,k7⟩;have c6:=C.bg.ag 6 _ rfl;have c7:=C.bg.ag 7 _ rfl;have D7:=h_ C;have K7:=h_ (K6.out.trans k7 (λk M f=>iY (w0:=w) (.inl rfl) E.out k M f));clear C k7 Z;go_wp2_with fail;refine Free.ai 9 [] (λo=>o.cell? ⟨b,6,none⟩=some (.int .i64 d.writes)/\o.cell? ⟨b,7,none⟩=some (.int .i64 d.bytes)) (by kernel_rfl) (by kernel_rfl) ?_ ⟨c6,c7⟩ (λ_ _ h g=>⟨df h.1 g,df h.2 g⟩) ?_
      ·intro j mk r l;simp only[Free.find]at l;cases l
      simp only[eJ,dT];clear c6 c7;iterate 9 (apply Free.ae (Free.wq rfl) rfl;(intro w' D J;obtain⟨q0,q1⟩:=D;clear J;go_light;go_simp<;>rfl);(try simp only[Pt]))
      apply Free.ax;intro w8 _ hg _;simp only[fm,fo];have hz:=fC hg;have D8:=h_ (D7.out.below hz);have K8:=h_ (K7.out.trans (G:=λ_=>False) (aJ.aY hz) (λ_ _ f=>f.elim));clear hg hz;go_wp2_with fail;refine(oD D8.out d.writes d.bytes mt m4).mono ?_;rintro e w9 ⟨rfl,jp,m5,h9,k9,dl,d8⟩;have F:dK w b bs bm n pv ((d.push (m:Int) t.data.toList).fail d.writes d.bytes) (.int .i64 21) (.returned (.int .i64 21)) w9:=
       ⟨rfl,jp,m5,h9,K8.out.trans k9 (λk M f=>iY (w0:=w) (.inl rfl) E.out k M f),dl.imp id (λh=>fO K8.out.size h),λk e=>(d8 k e).elim (λe'=>E.out k e') (λh=> .inr (fO K8.out.size h)),λe=>by cases e⟩
      have S:Hid (dK w b bs bm n pv (DD.write n d (m:Int) t.data.toList).1 (.int .i64 (DD.write n d (m:Int) t.data.toList).2) (.returned (.int .i64 21)) w9):=by show dK _ _ _ _ _ _ _ _ _ _;rw[E3.out];exact F
      clear F h9 k9 dl d8;go_wp2_with fail;go_ret;exact S.out
     |false=>
      have q:(d.push (m:Int) t.data.toList).dh=false:=l;rw[q]at Z;have O:DD.write n d (m:Int) t.data.toList=((d.push (m:Int) t.data.toList).tick,0):=by rw[E2.out,l];rfl
      have E3:=h_ O;clear O l q;go_wp2_with fail;refine Z.out.mono ?_;rintro e w7 ⟨rfl,C,k7⟩;have F:dK w b bs bm n pv (d.push (m:Int) t.data.toList).tick (.int .i64 0) (.returned (.int .i64 0)) w7:=
       ⟨rfl,bm,_,C,K6.out.trans k7 (λk M f=>iY (w0:=w) (.inl rfl) E.out k M f), .inl rfl,E.out,λ_=>rfl⟩
      have S:Hid (dK w b bs bm n pv (DD.write n d (m:Int) t.data.toList).1 (.int .i64 (DD.write n d (m:Int) t.data.toList).2) (.returned (.int .i64 0)) w7):=by show dK _ _ _ _ _ _ _ _ _ _;rw[E3.out];exact F
      clear F C k7 Z;go_wp2_with fail;go_ret;exact S.out
    ·have m8:Hid (∀g i,pv= .slice (some ⟨g,0,none⟩) L i->i<L+1):=λg i e=>Nat.lt_of_not_le (λhc=>U ⟨g,i,e,hc⟩)
     clear U;have k2:=P4.out.drew.ag 2 _ rfl;rw[N.out]at k2;go_wp2_with fail;refine Free.ai 10 [(6, .ind (λg=> .slice (some ⟨g,0,none⟩) 1 1) (λg o=>ay o g (bu x) 203)),(7, .ind (λy=> .slice (some ⟨y / 18446744073709551616,0,none⟩) (L+1) (y % 18446744073709551616)) (λy o=>o.ownsRow 0 203 33 (.slice (some ⟨y / 18446744073709551616,0,none⟩) (L+1) (y % 18446744073709551616)) (L+1) (xs++bu x)/\w4.heap.size<=y / 18446744073709551616))]
      (λo=>o.cell? ⟨b,2,none⟩=some (.slice A L c)/\ay o w.heap.size (bu x) 203/\o.ownsRow 0 203 33 pv L xs/\w4.heap.size<=o.heap.size) (by kernel_rfl) (by kernel_rfl) ?_ ⟨k2,B4.out.drew,R4.out,aL _⟩
      (λw1 o h g=>⟨df h.1 g,h.2.1.below g h.2.1.lt,bC h.2.2.1 (λk e=>g.block k (h.2.2.1.lt k e).2),fO h.2.2.2 g.size⟩) ?_
     ·intro j mk r l y w1 o hr g;simp only[Free.find]at l
      repeat' split at l
      ·cases l;exact hr.below g hr.lt
      ·cases l;exact⟨bC hr.1 (λk e=>g.block k (hr.1.lt k e).2),hr.2⟩
      ·cases l
     simp only[eJ,dT];clear k2;iterate 7 (first|(apply Free.ae rfl rfl;(intro w' D J;exact oC rfl (by rfl) D.2.1 Tryz.underlying203 rfl (by rw[tY,HE.out];kernel_rfl));simp only[Pt])|(apply Free.aR rfl rfl;(intro w' D J;refine Free.cq (v:= .slice (some ⟨w'.heap.size,0,none⟩) 1 1) (w':=w'.alloc (.cells (bu x).toArray 203)) ?_ ⟨(Below.refl _ _).alloc (aL _) _,w'.heap.size,rfl,ay.new w' (bu x) 203⟩;have hb:=Apk.fj (P:=Tryz.prog) w' 133 203 i0 _ Tryz.underlying133 HI.out bi.out (bu x).toArray (by rw[tY,HE.out,I.out]) (by rw[I.out];decide) (by rw[I.out];decide);exact fB rfl hb))|(apply Free.ae (Free.wq rfl) rfl;(intro w' D J;obtain⟨q0,q1,q2,q3⟩:=D;clear J q1 q2 q3;go_light;go_simp<;>rfl);(try simp only[Pt])))
     intro g6;simp only[Pt];apply Free.aR rfl rfl
     ·intro w' D J;have h6:ay w' g6 (bu x) 203:=J _ dH (by kernel_rfl);obtain⟨i,w5,d9,d7,Q⟩:=Apk.oi (P:=Tryz.prog) w' 0 133 133 203 i0 _ 33 40 Tryz.underlying133 HI.out bi.out I.out i'.out rfl (by decide) pv L xs D.2.2.1 ⟨g6,0,none⟩ 1 1 (bu x) (by rw[HE.out]) (λj u hu=>by rw[addr_add,nW];exact h6.ag j u hu) (λu hu=>lT u hu) (by unfold maxLen;omega) (by omega) (gu _) (by decide) m8.out;have d6:i<18446744073709551616:=by
       obtain⟨_,h0|⟨g',nl,ge,e',_,_,_,up,_⟩⟩:=d7
       ·exact absurd h0.2 (by omega)
       ·injection e' with _ _ O;subst O;unfold maxLen at up;omega
      have e1:(w'.heap.size*18446744073709551616+i) / 18446744073709551616=w'.heap.size:=by omega
      have V:(w'.heap.size*18446744073709551616+i) % 18446744073709551616=i:=by omega
      refine Free.cq (v:= .slice (some ⟨w'.heap.size,0,none⟩) (L+1) i) (w':=w5) ?_ ⟨⟨Q.os,Q.tape,Q.output,Q.size,λk M=>Q.block k M (by simp)⟩,w'.heap.size*18446744073709551616+i,by rw[e1,V],by rw[e1,V];exact⟨d7,D.2.2.2⟩⟩;exact dL (s:= .tmp 45) (x:= .tmp 47) rfl (by rw[N.out];rfl) rfl d9
     intro y;simp only[Pt];iterate 2 (apply Free.ae (Free.wq rfl) rfl;(intro w' D J;obtain⟨q0,q1,q2,q3⟩:=D;clear J q0 q1 q2 q3;go_light;go_simp<;>rfl);(try simp only[Pt]))
     apply Free.ax;intro Y ld hg R;have C:=R _ dH;simp only at C;obtain⟨H,pm⟩:=C;have hz:=fC hg;have Pz:=P4.out.below hz P4.out.lt;have ww:b<w4.heap.size:=P4.out.lt;have f2:=Pz.frozen 2;have c2:=Pz.ag 2 _ rfl;have D6:Hid (aI (Y.setCell ⟨b,2,none⟩ (.slice (some ⟨y / 18446744073709551616,0,none⟩) (L+1) (y % 18446744073709551616))) b bs bm (.slice (some ⟨y / 18446744073709551616,0,none⟩) (L+1) (y % 18446744073709551616)) (d.push (m:Int) t.data.toList) n):=by
      show aI _ _ _ _ _ _ _;have z:∀k,k≠b->(Y.setCell ⟨b,2,none⟩ (.slice (some ⟨y / 18446744073709551616,0,none⟩) (L+1) (y % 18446744073709551616))).heap[k]? =Y.heap[k]? :=λk M=>Below.heap_setCell Y ⟨b,2,none⟩ _ k M
      refine⟨m7.out,Pz.set 2 _,(S4.out.below hz S4.out.lt).bG (z bs T.out.PN), ?_,(M4.out.bD (hz.block bm M4.out.lt)).bD (z bm T.out.Sw)⟩;rw[f9.out,gc.out];exact bC H (λk e=>z k (by
        have:y / 18446744073709551616=k:=by simpa[Value.ownBlock]using e
        omega))
     have K6:=h_ ((K4.out.trans (G:=λ_=>False) (aJ.aY hz) (λ_ _ f=>f.elim)).setCell (p:=⟨b,2,none⟩) (λ_=> .inl rfl) (.slice (some ⟨y / 18446744073709551616,0,none⟩) (L+1) (y % 18446744073709551616)));have E:Hid (∀k,(Value.slice (some ⟨y / 18446744073709551616,0,none⟩) (L+1) (y % 18446744073709551616)).ownBlock=some k->pv.ownBlock=some k\/w.heap.size<=k):=λk e=> .inr (by
      have:y / 18446744073709551616=k:=by simpa[Value.ownBlock]using e
      have:=K4.out.size;omega)
     simp only[fm,fo];clear ld hg R H pm hz Pz ww i9 N m8 P4 S4 R4 M4 B4 K4 gc f9 HI bi I i' io;have Z:=h_ (qc D6.out);have mt:=D6.out.ok.w0;have m4:=D6.out.ok.w1;cases l:d.dh with
     |true=>
      have q:(d.push (m:Int) t.data.toList).dh=true:=l;rw[q,nP _ q]at Z;have O:DD.write n d (m:Int) t.data.toList=((d.push (m:Int) t.data.toList).fail d.writes d.bytes,21):=by rw[E2.out,l];rfl
      have E3:=h_ O;clear O l q;go_wp2_with fail;refine Z.out.mono ?_;rintro e w7 ⟨rfl,C,k7⟩;have c6:=C.bg.ag 6 _ rfl;have c7:=C.bg.ag 7 _ rfl;have D7:=h_ C;have K7:=h_ (K6.out.trans k7 (λk M f=>iY (w0:=w) (.inl rfl) E.out k M f));clear C k7 Z;go_wp2_with fail;refine Free.ai 9 [] (λo=>o.cell? ⟨b,6,none⟩=some (.int .i64 d.writes)/\o.cell? ⟨b,7,none⟩=some (.int .i64 d.bytes)) (by kernel_rfl) (by kernel_rfl) ?_ ⟨c6,c7⟩ (λ_ _ h g=>⟨df h.1 g,df h.2 g⟩) ?_
      ·intro j mk r l;simp only[Free.find]at l;cases l
      simp only[eJ,dT];clear c6 c7;iterate 9 (apply Free.ae (Free.wq rfl) rfl;(intro w' D J;obtain⟨q0,q1⟩:=D;clear J;go_light;go_simp<;>rfl);(try simp only[Pt]))
      apply Free.ax;intro w8 _ hg _;simp only[fm,fo];have hz:=fC hg;have D8:=h_ (D7.out.below hz);have K8:=h_ (K7.out.trans (G:=λ_=>False) (aJ.aY hz) (λ_ _ f=>f.elim));clear hg hz;go_wp2_with fail;refine(oD D8.out d.writes d.bytes mt m4).mono ?_;rintro e w9 ⟨rfl,jp,m5,h9,k9,dl,d8⟩;have F:dK w b bs bm n pv ((d.push (m:Int) t.data.toList).fail d.writes d.bytes) (.int .i64 21) (.returned (.int .i64 21)) w9:=
       ⟨rfl,jp,m5,h9,K8.out.trans k9 (λk M f=>iY (w0:=w) (.inl rfl) E.out k M f),dl.imp id (λh=>fO K8.out.size h),λk e=>(d8 k e).elim (λe'=>E.out k e') (λh=> .inr (fO K8.out.size h)),λe=>by cases e⟩
      have S:Hid (dK w b bs bm n pv (DD.write n d (m:Int) t.data.toList).1 (.int .i64 (DD.write n d (m:Int) t.data.toList).2) (.returned (.int .i64 21)) w9):=by show dK _ _ _ _ _ _ _ _ _ _;rw[E3.out];exact F
      clear F h9 k9 dl d8;go_wp2_with fail;go_ret;exact S.out
     |false=>
      have q:(d.push (m:Int) t.data.toList).dh=false:=l;rw[q]at Z;have O:DD.write n d (m:Int) t.data.toList=((d.push (m:Int) t.data.toList).tick,0):=by rw[E2.out,l];rfl
      have E3:=h_ O;clear O l q;go_wp2_with fail;refine Z.out.mono ?_;rintro e w7 ⟨rfl,C,k7⟩;have F:dK w b bs bm n pv (d.push (m:Int) t.data.toList).tick (.int .i64 0) (.returned (.int .i64 0)) w7:=
       ⟨rfl,bm,_,C,K6.out.trans k7 (λk M f=>iY (w0:=w) (.inl rfl) E.out k M f), .inl rfl,E.out,λ_=>rfl⟩
      have S:Hid (dK w b bs bm n pv (DD.write n d (m:Int) t.data.toList).1 (.int .i64 (DD.write n d (m:Int) t.data.toList).2) (.returned (.int .i64 0)) w7):=by show dK _ _ _ _ _ _ _ _ _ _;rw[E3.out];exact F
      clear F C k7 Z;go_wp2_with fail;go_ret;exact S.out
   ·have V:DD.write n d s t.data.toList=(d,1):=by simp[DD.write,hon,R,an,co]
    rw[V];rw[R]at H1;have T:=h_ (sx h (.int .i64 1));have qr:((t.size:Int) !=32)=true:=by simp;omega
    clear V h hon R an co;go_enter Tryz.func190,Tryz.ntmps190;go_wp2_with fail;refine H1.out.mono ?_;rintro e w' ⟨rfl,rfl⟩;go_wp2_with fail;go_ret;exact T.out
theorem As(h:aI w b bs bm pv d n)(s:Int)(t:ByteArray)(a:d.aF.length<1000000):
  Calls Tryz.prog 190 #[.pointer (some ⟨b,0,none⟩), .int .i64 s, .string t] w (eM w b bs bm n pv (DD.write n d s t.data.toList).1 (.int .i64 (DD.write n d s t.data.toList).2)):=
 (tV h s t a).mono λ_ _ h=>h.less
end
end Go.Proofs.YtkmbmfengcdmoaaGreatDoor
namespace Go.Proofs.YtkmbmfengcdmoaaGreatDoor
open Go.RowKit Go.ay
structure ei where
 ref:Int
 act:Int
 low:Int
 high:Int
 cJ:Int
 secret:Bool
def bU(x:ei):List Value:= [.int .i64 x.ref, .int .i64 x.act, .int .i64 x.low, .int .i64 x.high, .int .i64 x.cJ, .bool x.secret]
structure ei.Ok (x:ei):Prop where
 r0: -9223372036854775808<=x.ref
 r1:x.ref<=9223372036854775807
 a0: -9223372036854775808<=x.act
 a1:x.act<=9223372036854775807
 l0: -9223372036854775808<=x.low
 l1:x.low<=9223372036854775807
 h0: -9223372036854775808<=x.high
 h1:x.high<=9223372036854775807
 f0: -9223372036854775808<=x.cJ
 f1:x.cJ<=9223372036854775807
def Bt(b:Bool):Int:=if b then 1 else 0
def l8(x:ei):Nat->Int
 |0=>x.ref
 |1=>x.act
 |2=>x.low
 |3=>x.high
 |4=>x.cJ
 |_=>Bt x.secret
def pE(x:ei):Nat->ByteArray
 |0=>⟨#[102,97,99,116]⟩
 |k+1=>pE x k++(⟨#[32]⟩++dec (l8 x k))
def iT(x:ei):ByteArray:=pE x 6
theorem oM{x:ei}(h:x.Ok):∀k, -9223372036854775808<=l8 x k/\l8 x k<=9223372036854775807
 |0=>⟨h.r0,h.r1⟩
 |1=>⟨h.a0,h.a1⟩
 |2=>⟨h.l0,h.l1⟩
 |3=>⟨h.h0,h.h1⟩
 |4=>⟨h.f0,h.f1⟩
 |_+5=>by show _<=Bt x.secret/\Bt x.secret<=_;unfold Bt;split<;>omega
theorem om{x:ei}(h:x.Ok):∀k,(pE x k).size<=4+22*k
 |0=>aL 4
 |k+1=>by
  have:=om h k;have c:=cR _ (oM h k).1 (oM h k).2;have a:(⟨#[32]⟩:ByteArray).size=1:=rfl;show(pE x k++(⟨#[32]⟩++dec (l8 x k))).size<=_;rw[NR,NR,a];omega
theorem QN(a b c d e f v:Int)(k:Nat)(g:k<6)(hv:(#[Value.int .i64 a, .int .i64 b, .int .i64 c, .int .i64 d, .int .i64 e, .int .i64 f]:Array Value)[k]? =some (.int .i64 v))(W:World):
  (Instr.index 142 (.agg #[.int .i64 a, .int .i64 b, .int .i64 c, .int .i64 d, .int .i64 e, .int .i64 f]) (.int .i64 (k:Int))).run Tryz.prog W= .ok (.int .i64 v) W:=by
 match k,g with
 |0,_=>cases hv;go_simp<;>rfl
 |1,_=>cases hv;go_simp<;>rfl
 |2,_=>cases hv;go_simp<;>rfl
 |3,_=>cases hv;go_simp<;>rfl
 |4,_=>cases hv;go_simp<;>rfl
 |5,_=>cases hv;go_simp<;>rfl
def N9(w:World)(x:ei)(t i:Value)(wr:World):Prop:=∃k:Nat,k<=6/\i= .int .i64 k/\t= .string (pE x k)/\Below w.heap.size w wr
set_option maxHeartbeats 2000000 in
theorem xW(a:ei)(w:World)(M:a.Ok)(F:cB w):
  Calls Tryz.prog 26 #[.agg (bU a).toArray] w λe w'=>e= .returned (.string (iT a))/\Below w.heap.size w w':=by
 have x:=h_ (oM M);have I:=h_ (om M);have Q:=h_ F;have g:Hid (N9 w a (.string ⟨#[102,97,99,116]⟩) (.int .i64 0) (w.alloc (.cells (bU a).toArray 29))):=⟨0,by decide,rfl,rfl,(Below.refl _ _).alloc (aL _) _⟩
 have h:Hid (∀k,k<6->(#[Value.int .i64 a.ref, .int .i64 a.act, .int .i64 a.low, .int .i64 a.high, .int .i64 a.cJ, .int .i64 (Bt a.secret)]:Array Value)[k]? =some (.int .i64 (l8 a k))):=by
  intro k K
  match k,K with
  |0,_=>rfl
  |1,_=>rfl
  |2,_=>rfl
  |3,_=>rfl
  |4,_=>rfl
  |5,_=>rfl
 obtain⟨R,T⟩:=x_ (pE a 6)
 show Calls Tryz.prog 26 #[.agg (bU a).toArray] w λe w'=>e= .returned (.string (pE a 6))/\Below w.heap.size w w'
 clear F M T;cases hsec:a.secret with
 |true=>
  obtain⟨B,xa,A,z,y,U⟩:=a;dsimp only at hsec;subst hsec;obtain⟨a,c⟩:=x_ (⟨B,xa,A,z,y,true⟩:ei)
  have j:Hid (∀k,k<6->(#[Value.int .i64 B, .int .i64 xa, .int .i64 A, .int .i64 z, .int .i64 y, .int .i64 1]:Array Value)[k]? =some (.int .i64 (l8 a k))):=by rw[c];exact h
  rw[<-c]at x I;have l:Hid (N9 w a (.string ⟨#[102,97,99,116]⟩) (.int .i64 0) (w.alloc (.cells #[.int .i64 B, .int .i64 xa, .int .i64 A, .int .i64 z, .int .i64 y, .bool true] 29))):=by rw[c];exact g
  rw[<-c];clear h g;have h:=j;have g:=l;clear j l;have S:=h_ c;rw[show bU a= [.int .i64 B, .int .i64 xa, .int .i64 A, .int .i64 z, .int .i64 y, .bool true] by rw[c];rfl];clear c;go_enter Tryz.func26,Tryz.ntmps26;go_wp2_with fail
  go_loopw [4,21] (λt i wr=>N9 w a t i wr) (λ_ i _=>6- (intOf i).toNat)
  case atStart=>exact g.out
  case round=>
   clear g;obtain⟨k,K,rfl,rfl,r⟩:=hrel;have f:=h_ r;clear r;by_cases o:k<6
   ·have u:=x.out k;have O:=I.out k;have L:(k:Int)<6:=by omega
    have N:(0:Int)<=(k:Int):=by omega
    have m:=h.out k o;obtain⟨v,E⟩:=x_ (l8 a k)
    rw[<-E]at m u;have s:=QN _ _ _ _ _ _ v k o m;have J:=cR v u.1 u.2;have G:=h_ (λw F=>fg v w u.1 u.2 F);have C:Hid (pE a (k+1)=pE a k++(⟨#[32]⟩++dec v)):=by show _=_;rw[E];rfl
    obtain⟨H,p⟩:=x_ (pE a k)
    rw[<-p]at O C⊢;have V: ¬9223372036854775807<1+(dec v).size:=by omega
    have W: ¬9223372036854775807<H.size+(1+(dec v).size):=by omega
    clear m E p;go_wp2_with fail;refine(G.out _ (Q.out.below f.out (aL _))).mono ?_;rintro e P ⟨rfl,q⟩;have D:Hid (N9 w a (.string (H++(⟨#[32]⟩++dec v))) (.int .i64 ((k:Int)+1)) P):=⟨k+1,o,by go_num,by rw[C.out],f.out.trans (q.mono f.out.size)⟩
    clear q f G C s;go_wp2_with fail
    go_roundw
    case rel=>
     go_light;have key:=D.out;first|exact key|((repeat apply Exists.intro);exact⟨key,rfl⟩)
    case measure=>simp[intOf];omega
   ·obtain rfl:k=6:=by omega
    go_wp2_with fail;go_ret;exact⟨rfl,f.out⟩
 |false=>
  obtain⟨B,xa,A,z,y,U⟩:=a;dsimp only at hsec;subst hsec;obtain⟨a,c⟩:=x_ (⟨B,xa,A,z,y,false⟩:ei)
  have j:Hid (∀k,k<6->(#[Value.int .i64 B, .int .i64 xa, .int .i64 A, .int .i64 z, .int .i64 y, .int .i64 0]:Array Value)[k]? =some (.int .i64 (l8 a k))):=by rw[c];exact h
  rw[<-c]at x I;have l:Hid (N9 w a (.string ⟨#[102,97,99,116]⟩) (.int .i64 0) (w.alloc (.cells #[.int .i64 B, .int .i64 xa, .int .i64 A, .int .i64 z, .int .i64 y, .bool false] 29))):=by rw[c];exact g
  rw[<-c];clear h g;have h:=j;have g:=l;clear j l;have S:=h_ c;rw[show bU a= [.int .i64 B, .int .i64 xa, .int .i64 A, .int .i64 z, .int .i64 y, .bool false] by rw[c];rfl];clear c;go_enter Tryz.func26,Tryz.ntmps26;go_wp2_with fail
  go_loopw [4,21] (λt i wr=>N9 w a t i wr) (λ_ i _=>6- (intOf i).toNat)
  case atStart=>exact g.out
  case round=>
   clear g;obtain⟨k,K,rfl,rfl,r⟩:=hrel;have f:=h_ r;clear r;by_cases o:k<6
   ·have u:=x.out k;have O:=I.out k;have L:(k:Int)<6:=by omega
    have N:(0:Int)<=(k:Int):=by omega
    have m:=h.out k o;obtain⟨v,E⟩:=x_ (l8 a k)
    rw[<-E]at m u;have s:=QN _ _ _ _ _ _ v k o m;have J:=cR v u.1 u.2;have G:=h_ (λw F=>fg v w u.1 u.2 F);have C:Hid (pE a (k+1)=pE a k++(⟨#[32]⟩++dec v)):=by show _=_;rw[E];rfl
    obtain⟨H,p⟩:=x_ (pE a k)
    rw[<-p]at O C⊢;have V: ¬9223372036854775807<1+(dec v).size:=by omega
    have W: ¬9223372036854775807<H.size+(1+(dec v).size):=by omega
    clear m E p;go_wp2_with fail;refine(G.out _ (Q.out.below f.out (aL _))).mono ?_;rintro e P ⟨rfl,q⟩;have D:Hid (N9 w a (.string (H++(⟨#[32]⟩++dec v))) (.int .i64 ((k:Int)+1)) P):=⟨k+1,o,by go_num,by rw[C.out],f.out.trans (q.mono f.out.size)⟩
    clear q f G C s;go_wp2_with fail
    go_roundw
    case rel=>
     go_light;have key:=D.out;first|exact key|((repeat apply Exists.intro);exact⟨key,rfl⟩)
    case measure=>simp[intOf];omega
   ·obtain rfl:k=6:=by omega
    go_wp2_with fail;go_ret;exact⟨rfl,f.out⟩
end Go.Proofs.YtkmbmfengcdmoaaGreatDoor
