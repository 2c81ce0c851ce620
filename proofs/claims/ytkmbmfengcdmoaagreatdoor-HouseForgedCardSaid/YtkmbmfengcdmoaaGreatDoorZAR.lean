/- Package file: the text of a fact. Condition: the variables of digest and of strconv hold their numbers. -/
import Derived.Test.YtkmbmfengcdmoaaGreatDoorZAQ
import Derived.Test.YtkmbmfengcdmoaaGreatDoorZAA
import Derived.Test.YtkmbmfengcdmoaaGreatDoorApk
import Derived.Lib.BufferWrite
import Derived.Test.YtkmbmfengcdmoaaGreatDoorZAE
import Derived.Test.YtkmbmfengcdmoaaGreatDoorBlk
set_option maxRecDepth 100000
set_option linter.all false
namespace Go.Proofs.YtkmbmfengcdmoaaGreatDoor
open Go.RowKit Go.ay Go.Dk Go.Mp
def dK(w:World)(b bs bm n:Nat)(pv:Value)(d:DD)(v:Value)(e:Ending)(w':World):Prop:=
 e= .returned v/\∃bm' pv',aI w' b bs bm' pv' d n/\aJ (Fp b bs bm pv) w w'/\(bm'=bm\/w.heap.size<=bm')/\(∀k,pv'.ownBlock=some k->pv.ownBlock=some k\/w.heap.size<=k)/\(v= .int .i64 0->bm'=bm)
theorem sx{w:World}{b bs bm n:Nat}{pv:Value}{d:DD}(h:aI w b bs bm pv d n)(v:Value):dK w b bs bm n pv d v (.returned v) w:=⟨rfl,bm,pv,h,aJ.refl _ _, .inl rfl,λ_ h=> .inl h,λ_=>rfl⟩
theorem dK.less{w w':World}{b bs bm n:Nat}{pv v:Value}{d:DD}{e:Ending}(h:dK w b bs bm n pv d v e w'):eM w b bs bm n pv d v e w':=by obtain⟨h1,bm',pv',h2,h3,h4,h5,_⟩:=h;exact⟨h1,bm',pv',h2,h3,h4,h5⟩
theorem QU:(Tryz.prog.info? 203).map (λi=>(i.zero,i.size,i.bytes))=some (some (.agg (Array.mk (.int .i64 0::List.replicate 32 (.int .u8 0)))),33,40):=by kernel_rfl
section
variable {w:World} {b bs bm n:Nat} {pv:Value} {d:DD}
def zw(s:Int):Array Value:= #[.int .i64 s, .int .u8 0, .int .u8 0, .int .u8 0, .int .u8 0, .int .u8 0, .int .u8 0, .int .u8 0, .int .u8 0, .int .u8 0, .int .u8 0, .int .u8 0, .int .u8 0, .int .u8 0, .int .u8 0, .int .u8 0, .int .u8 0, .int .u8 0, .int .u8 0, .int .u8 0, .int .u8 0, .int .u8 0, .int .u8 0, .int .u8 0, .int .u8 0, .int .u8 0, .int .u8 0, .int .u8 0, .int .u8 0, .int .u8 0, .int .u8 0, .int .u8 0, .int .u8 0]
theorem PF(s:Int):(zw s).all (·.oneCell')=true:=by simp[zw,Value.oneCell']
theorem rV(s:Int):(zw s).size=33:=rfl
theorem M9(s:Int):(Tryz.prog.info? 203).map (·.size)=some (zw s).size:=by rw[rV];kernel_rfl
theorem Na(s:Int):(zw s).toList= .int .i64 s::List.replicate 32 (.int .u8 0):=rfl
theorem uy(W:World)(m:Nat)(t:ByteArray)(h:t.size=32)(ty:TypeId):(Builtin.copy_ #[117,9] ty #[.slice (some ⟨W.heap.size,1,none⟩) 32 32, .string t]).run Tryz.prog (W.alloc (.cells (zw m) 203))=
  .ok (goInt 32) (W.alloc (.cells (bu (m,t.data.toList)).toArray 203)):=by
 have hc:=Lib.run_copy_row_string (P:=Tryz.prog) (W.alloc (.cells (zw m) 203)) 117 9 ty 5 W.heap.size 1 32 32 t (zw m) 203 Tryz.underlying117 (by kernel_rfl) (heap_alloc_last W _) (by omega) (by rw[rV];omega);rw[hc,World.setRow_alloc_new,h];congr 3;rw[Na];have hl:t.data.toList.length=32:=by simpa using h
 simp[bu,Lib.byteCells,C8]
def rZ(g o:Nat)(E:List Value)(sz:Nat)(w w':World):Prop:=
 aJ (λk=>k=g) w w'/\∀cc:Array Value,w.heap[g]? =some (.cells cc 203 (0,0))->cc.size=sz->w'.heap[g]? =some (.cells cc 203 (0,0))\/w'.heap[g]? =some (.cells (Apk.nU cc o E) 203 (0,0))
theorem rZ.refl(g o:Nat)(E:List Value)(sz:Nat)(w:World):rZ g o E sz w w:=⟨aJ.refl _ _,λ_ h _=> .inl h⟩
theorem rZ.trans{g o:Nat}{E:List Value}{sz:Nat}(hf:∀cc:Array Value,cc.size=sz->o+E.length<=cc.size)(a b c:World)(h:rZ g o E sz a b)(k:rZ g o E sz b c):rZ g o E sz a c:=
 ⟨h.1.trans k.1 (λ_ _ f=>f),λcc hc hs=>by
  rcases h.2 cc hc hs with h1|h1
  ·exact k.2 cc h1 hs
  ·rcases k.2 _ h1 (by rw[Apk.fH _ _ _ (hf cc hs)];exact hs)with h2|h2
   ·exact .inr h2
   ·exact .inr (by rw[h2,Apk.rT _ _ _ (hf cc hs)])⟩
theorem JN{g o:Nat}{E:List Value}{sz:Nat}{w w':World}(h:Below w.heap.size w w'):rZ g o E sz w w':=
 ⟨aJ.aY h,λ_ hc _=> .inl ((h.block g (iS.1 hc).1).trans hc)⟩
theorem MD{g o:Nat}{E:List Value}{sz:Nat}{w:World}{cc:Array Value}(hc:w.heap[g]? =some (.cells cc 203 (0,0))):rZ g o E sz w (w.setRow g (Apk.nU cc o E)):=
 ⟨(aJ.refl (λk=>k=g) w).setRow (λ_=>rfl) _,λc2 h2 _=>by rw[hc]at h2;cases h2;exact .inr (setRow_heap w g cc _ 203 _ hc)⟩
theorem oC{P:Program}{o:Oper}{ρ:Operand->Value}{w:World}{ty:TypeId}{x:Operand}{g:Nat}{t:TypeId}{cs:List Value}{dsc:TypeDesc}(ho:o.op= .load ty x)(hx:ρ x= .pointer (some ⟨g,0,none⟩))(hg:ay w g cs t)
  (hu:P.underlying ty=some dsc) (hd:(match dsc with| .struct _| .array _ _=>true|_=>false)=true) (hi:(P.info? ty).map (·.size)=some cs.toArray.size):(execOp ρ o).run P w= .ok (.value (.agg cs.toArray)) w:=by
 unfold execOp;simp only[ho,hx,Instr.loadAt,Instr.sureAddr,Sem.run_bind,Sem.run_pure,Result.andThen_ok,run_loadVar_row w g t ty cs.toArray (0,0) dsc hg hu hd hi]
theorem fB{P:Program}{o:Oper}{ρ:Operand->Value}{w w':World}{t:TypeId}{x:Operand}{v:Value}(ho:o.op= .buildSlice t 1 #[(0,x)])(h:(Instr.buildSlice t 1 #[(0,ρ x)]).run P w= .ok v w'):(execOp ρ o).run P w= .ok (.value v) w':=by unfold execOp;simp[ho,h]
theorem dL{P:Program}{o:Oper}{ρ:Operand->Value}{w w':World}{t:TypeId}{s x:Operand}{u y v:Value}(ho:o.op= .call {callee:= .builtin .append,args:= #[s,x],argTypes:= #[t,t]})(hs:ρ s=u)(hx:ρ x=y)
  (h:(Builtin.append_ #[t,t] o.type #[u,y]).run P w= .ok v w'):(execOp ρ o).run P w= .ok (.value v) w':=by
 unfold execOp;simp only[ho,resolve,invoke,builtin,Sem.run_bind,Sem.run_pure,Result.andThen_ok,List.map_toArray,xJ,NP,hs,hx,h]
set_option maxHeartbeats 2000000 in
theorem tV(h:aI w b bs bm pv d n)(s:Int)(t:ByteArray)(hfew:d.aF.length<1000000):
  Calls Tryz.prog 190 #[.pointer (some ⟨b,0,none⟩), .int .i64 s, .string t] w (dK w b bs bm n pv (DD.write n d s t.data.toList).1 (.int .i64 (DD.write n d s t.data.toList).2)):=by
 have c0:=h.bg.ag 0 _ rfl;have htl:t.data.toList.length=t.size:=by simp
 cases hon:d.on with
 |false=>
  have e2:DD.write n d s t.data.toList=(d,21):=by simp[DD.write,hon]
  rw[e2];rw[hon]at c0;have HD:=h_ (sx h (.int .i64 21));clear e2 h hon htl;go_enter Tryz.func190,Tryz.ntmps190
  go_wp2
  go_ret;exact HD.out
 |true=>
  rw[hon]at c0;have H1:=h_ (CZ h s);cases hh:DD.hasB n s with
  |false=>
   have e2:DD.write n d s t.data.toList=(d,1):=by simp[DD.write,hon,hh]
   rw[e2];rw[hh]at H1;have HD:=h_ (sx h (.int .i64 1));clear e2 h hon hh htl;go_enter Tryz.func190,Tryz.ntmps190;go_wp2_with fail;refine H1.out.mono ?_;rintro e w' ⟨rfl,rfl⟩;go_wp2_with fail;go_ret;exact HD.out
  |true=>
   by_cases h32:t.size=32
   ·have e2:DD.write n d s t.data.toList=if d.dh then((d.push s t.data.toList).fail d.writes d.bytes,21)else((d.push s t.data.toList).tick,0):=by simp[DD.write,hon,hh,htl,h32]
    rw[hh]at H1;have hs:=hh;simp[DD.hasB]at hs;obtain⟨m,rfl⟩:∃m:Nat,s=m:=⟨s.toNat,by omega⟩
    have hsz1:((t.size:Int) !=32)=false:=by simp;omega
    have hsz2:t.size<=32:=by omega
    have hsz3:32<=t.size:=by omega
    have HSZ:=h_ h32;have HOK:=h_ (h.ok.push (s:=(m:Int)) (t:=t.data.toList) hh (by omega) hfew);have E2:=h_ e2;have HD:=h_ h;clear e2 hon hh hs h htl h32;go_enter Tryz.func190,Tryz.ntmps190;go_wp2_with fail;refine H1.out.mono ?_;rintro e w' ⟨rfl,rfl⟩;clear H1;have hcp:=uy w m t HSZ.out 3;go_wp2_with (with_reducible refine wpList_store_row rfl 203 (.tmp 7) (.tmp 26) rfl w.heap.size (zw m) rfl rfl 203 (zw 0) (heap_alloc_last w _) (M9 m) ((rV 0).trans (rV m).symm) (PF m) ?_;rw[World.setRow_alloc_new])
    clear hcp;obtain⟨x,ex⟩:=x_ ((m,t.data.toList):Nat×List UInt8)
    rw[<-ex];have HE:=h_ (show(bu x).length=33 by rw[ex];exact lS (by simpa using HSZ.out));have HX:=h_ ex;clear ex;obtain⟨A,c,hpv⟩:=wV HD.out;have HPV:=h_ hpv;have hDa:=HD.out.alloc (.cells (bu x).toArray 203);have HDA:=h_ hDa;have HBL:=h_ (ay.new w (bu x) 203);have HKP:=h_ ((aJ.refl (Fp b bs bm pv) w).alloc (.cells (bu x).toArray 203));obtain⟨L,eL⟩:=x_ d.aF.length
    rw[<-eL]at hpv hfew;have EL:=h_ eL;clear hDa eL;have k3:=HDA.out.bg.drew.ag 3 _ rfl;have k2:=HDA.out.bg.drew.ag 2 _ rfl;rw[hpv]at k2;clear hpv;refine Free.ai 10 [] (λw2=>w2.cell? ⟨b,3,none⟩=some (.map (some bm))/\w2.cell? ⟨b,2,none⟩=some (.slice A L c)) (by kernel_rfl) (by kernel_rfl) ?_ ⟨k3,k2⟩ (λ_ _ h g=>⟨df h.1 g,df h.2 g⟩) ?_
    ·intro j mk r hf;simp only[Free.find]at hf;cases hf
    simp only[eJ,dT];clear k3 k2 c0;iterate 10 (apply Free.ae (Free.wq rfl) rfl;(intro w' hB hA;obtain⟨q0,q1⟩:=hB;clear hA;go_light;go_simp<;>rfl);(try simp only[Pt]))
    apply Free.ax;intro wz _ hg _;simp only[fm,fo];have hz:=fC hg;have Dz:=h_ (HDA.out.below hz);have Bz:=h_ (HBL.out.below hz HBL.out.lt);have Kz:=h_ (HKP.out.trans (G:=λ_=>False) (aJ.aY hz) (λ_ _ f=>f.elim));clear hg hz HDA HBL HKP;refine xy (b:=bm) rfl (.tmp 34) (.tmp 35) (.tmp 40) rfl Dz.out.map Tryz.underlying132 Tryz.underlying3 (m:Int) (L:Int) rfl rfl rfl ?_;intro w4 hm4 hg4;have hne:∀k,k<wz.heap.size->k≠bm->w4.heap[k]? =wz.heap[k]? :=λk hk hn=>hg4.block k hk (λe=>hn (by injection e))
    have M4:Hid (bL w4 bm (fR (d.push (m:Int) t.data.toList).aF)):=by
     show bL _ _ _;have e:fR (d.push (m:Int) t.data.toList).aF=λy=>if y=(m:Int)then some (L:Int)else fR d.aF y:=by show fR (d.aF++ [((m:Int).toNat,t.data.toList)])=_;rw[qP,EL.out];rfl
     rw[e];exact hm4
    have P4:=h_ (Dz.out.bg.bG (hne b Dz.out.bg.lt (nq Dz.out.Sw)));have S4:=h_ (Dz.out.st.bG (hne bs Dz.out.st.lt (nq Dz.out.TM)));have R4:=h_ (bC Dz.out.row (λk e=>hne k (Dz.out.row.lt k e).2 (λe'=>nJ Dz.out.row Dz.out.map (by rw[<-e'];exact e))));have B4:=h_ (Bz.out.bG (hne _ Bz.out.lt (by have:=HD.out.map.lt;omega)));have K4:=h_ (Kz.out.grown hg4 (λk e _=>by cases e;exact .inr (.inr (.inl rfl))));clear hm4 hg4 hne Dz Bz Kz;simp only[Act.put];obtain⟨xs,exs⟩:=x_ (d.aF.flatMap bu)
    rw[<-exs, <-EL.out]at R4;have EXS:=h_ exs;have hpv:=HPV.out;rw[<-EL.out]at hpv;have HPV2:=h_ hpv;have hxsE:(d.push (m:Int) t.data.toList).aF.flatMap bu=xs++bu x:=by rw[EXS.out,HX.out];show(d.aF++ [((m:Int).toNat,t.data.toList)]).flatMap bu=_;simp
    have HXE:=h_ hxsE;have hLp:(d.push (m:Int) t.data.toList).aF.length=L+1:=by rw[EL.out];simp[DD.push]
    have HLP:=h_ hLp;obtain⟨i0,hi,hz0,hz1,hz2⟩:=info_parts QU;have HI:=h_ hi;have HZ0:=h_ hz0;have HZ1:=h_ hz1;have HZ2:=h_ hz2;have HLW:=h_ HD.out.bg.lt;clear exs hpv hxsE hLp hi hz0 hz1 hz2;by_cases hroom:∃g cap,pv= .slice (some ⟨g,0,none⟩) L cap/\L+1<=cap
    ·obtain⟨g,cap,hpv,hcap⟩:=hroom;obtain⟨cur,hcur,hcap2,hcs,htk⟩:∃cur,w4.heap[g]? =some (.cells cur 203 (0,0))/\cap<=maxLen/\cur.size=cap*33/\cur.toList.take (L*33)=xs:=by
      obtain⟨_,h0|⟨g',cap',cur',e',_,h2,_,h4,h5,h6⟩⟩:=R4.out
      ·rw[hpv]at h0;cases h0.1
      ·rw[hpv]at e';injection e' with e1 _ e3;injection e1 with e1;injection e1 with e1;subst e1 e3;exact⟨cur',h2,h4,h5,h6⟩
     have hAc:A=some ⟨g,0,none⟩/\c=cap:=by have:=HPV2.out;rw[hpv]at this;injection this with e1 _ e3;exact⟨e1.symm,e3.symm⟩
     obtain⟨rfl,rfl⟩:=hAc;have hgb:g≠b:=λe=>iM R4.out P4.out (by decide) (by rw[hpv, <-e];rfl)
     have hgs:g≠bs:=λe=>iM R4.out S4.out (by decide) (by rw[hpv, <-e];rfl)
     have hgm:g≠bm:=λe=>nJ R4.out M4.out (by rw[hpv, <-e];rfl)
     have hgw:g<w.heap.size:=by have:=(HD.out.row.lt g (by rw[hpv];rfl)).2;exact this
     have hfit:∀cc:Array Value,cc.size=c*33->L*33+(bu x).length<=cc.size:=λcc e=>by rw[e,HE.out];omega
     have HFIT:=h_ hfit;have HHP:=h_ hpv
     letI:Fre2.Rel:=⟨rZ g (L*33) (bu x) (c*33),rZ.refl _ _ _ _,rZ.trans HFIT.out⟩
     have k2:=P4.out.drew.ag 2 _ rfl;rw[hpv]at k2;clear hfit hpv;go_wp2_with fail;refine Fre2.ai 10 [(6, .ind (λg6=> .slice (some ⟨g6,0,none⟩) 1 1) (λg6 w2=>ay w2 g6 (bu x) 203/\g6≠g)),(7, .ind (λ_=> .slice (some ⟨g,0,none⟩) (L+1) c) (λ_ w2=> ∃cc:Array Value,w2.heap[g]? =some (.cells (Apk.nU cc (L*33) (bu x)) 203 (0,0))/\cc.size=c*33/\cc.toList.take (L*33)=xs))]
      (λw2=>w2.cell? ⟨b,2,none⟩=some (.slice (some ⟨g,0,none⟩) L c)/\ay w2 w.heap.size (bu x) 203/\(∃cc:Array Value,w2.heap[g]? =some (.cells cc 203 (0,0))/\cc.size=c*33/\cc.toList.take (L*33)=xs)/\w4.heap.size<=w2.heap.size) (by kernel_rfl) (by kernel_rfl) ?_ ⟨k2,B4.out.drew,⟨cur,hcur,hcs,htk⟩,aL _⟩
      (λw1 w2 h r=> ?_) ?_
     ·intro j mk r hf y w1 w2 hr rr;obtain⟨rk,rc⟩:=rr;simp only[Free.find]at hf
      repeat' split at hf
      ·cases hf;exact⟨hr.1.bG (rk.block _ hr.1.lt hr.2),hr.2⟩
      ·cases hf
       obtain⟨cc,h1,h2,h3⟩:=hr;refine⟨cc, ?_,h2,h3⟩;rcases rc _ h1 (by rw[Apk.fH _ _ _ (HFIT.out cc h2)];exact h2)with h4|h4
       ·exact h4
       ·rw[h4,Apk.rT _ _ _ (HFIT.out cc h2)]
      ·cases hf
     ·obtain⟨rk,rc⟩:=r;obtain⟨h1,h2,⟨cc,h3,h4,h5⟩,h6⟩:=h;refine⟨?_,h2.bG (rk.block _ h2.lt (by omega)), ?_,fO h6 rk.size⟩
      ·rw[World.cell?_of_block (rk.block b (World.block_lt_of_cell? w1 _ h1) (nq hgb))];exact h1
      ·rcases rc _ h3 h4 with h7|h7
       ·exact⟨cc,h7,h4,h5⟩
       ·exact⟨_,h7,by rw[Apk.fH _ _ _ (HFIT.out cc h4)];exact h4,by rw[Apk.tK _ _ _ (HFIT.out cc h4)];exact h5⟩
     simp only[eJ,dT];clear k2;iterate 6 (first|(apply Fre2.ae rfl rfl;(intro w' hB hA;exact oC rfl (by rfl) hB.2.1 Tryz.underlying203 rfl (by rw[tY,HE.out];kernel_rfl));simp only[Pt])|(apply Fre2.ae (Free.wq rfl) rfl;(intro w' hB hA;obtain⟨q0,q1,q2,q3⟩:=hB;clear hA q1 q2 q3;go_light;go_simp<;>rfl);(try simp only[Pt])))
     apply Fre2.aR rfl rfl
     ·intro w' hB hA;refine Free.cq (v:= .slice (some ⟨w'.heap.size,0,none⟩) 1 1) (w':=w'.alloc (.cells (bu x).toArray 203)) ?_ ⟨JN ((Below.refl _ _).alloc (aL _) _),w'.heap.size,rfl,ay.new w' (bu x) 203, ?_⟩
      ·have hb:=Apk.fj (P:=Tryz.prog) w' 133 203 i0 _ Tryz.underlying133 HI.out HZ0.out (bu x).toArray (by rw[tY,HE.out,HZ1.out]) (by rw[HZ1.out];decide) (by rw[HZ1.out];decide);exact fB rfl hb
      ·have:=hB.2.1.lt;omega
     intro g6;simp only[Pt];iterate 1 (apply Fre2.aR rfl rfl;(intro w' hB hA;have h6:ay w' g6 (bu x) 203/\g6≠g:=hA _ dH (by kernel_rfl);obtain⟨_,_,⟨cc,h3,h4,h5⟩,_⟩:=hB;have hrun:=Apk.lJ (P:=Tryz.prog) w' 133 133 203 i0 33 Tryz.underlying133 HI.out HZ1.out g L c cc h3 ⟨g6,0,none⟩ 1 1 (bu x) (by rw[HE.out]) (λj u hu=>by rw[addr_add,nW];exact h6.1.ag j u hu) (λu hu=>lT u hu) hcap h4;refine Free.cq (v:= .slice (some ⟨g,0,none⟩) (L+1) c) (w':=w'.setRow g (Apk.nU cc (L*33) (bu x))) ?_ ⟨MD h3,0,rfl,cc,setRow_heap w' g cc _ 203 _ h3,h4,h5⟩;exact dL (s:= .tmp 45) (x:= .tmp 47) rfl rfl rfl hrun))
     intro y;simp only[Pt];iterate 2 (apply Fre2.ae (Free.wq rfl) rfl;(intro w' hB hA;obtain⟨q0,q1,q2,q3⟩:=hB;clear hA q0 q1 q2 q3;go_light;go_simp<;>rfl);(try simp only[Pt]))
     apply Fre2.ax;intro wz hBz hg hh;have h7:=hh _ dH;simp only at h7;obtain⟨cc,hc1,hc2,hc3⟩:=h7;obtain⟨hz,_⟩:aJ (λk=>k=g) w4.drew wz/\_:=hg;have Pz:=P4.out.drew.bG (hz.block b P4.out.lt (nq hgb));have f2:=Pz.frozen 2;have c2:=Pz.ag 2 _ rfl;have hlen:(xs++bu x).length=(L+1)*33:=by rw[fu,R4.out.1,HE.out,Nat.add_mul]
     have hown7:wz.ownsRow 0 203 33 (.slice (some ⟨g,0,none⟩) (L+1) c) (L+1) (xs++bu x):=by refine⟨hlen, .inr ⟨g,c,_,rfl,gu _,hc1,hcap,hcap2,by rw[Apk.fH _ _ _ (HFIT.out cc hc2)];exact hc2, ?_⟩⟩;unfold Apk.nU;rw[hc3,P7 (by rw[hlen];exact aL _),np (by rw[hlen];exact aL _)]
     have D6:Hid (aI (wz.setCell ⟨b,2,none⟩ (.slice (some ⟨g,0,none⟩) (L+1) c)) b bs bm (.slice (some ⟨g,0,none⟩) (L+1) c) (d.push (m:Int) t.data.toList) n):=by
      show aI _ _ _ _ _ _ _;have hne:∀k,k≠b->(wz.setCell ⟨b,2,none⟩ (.slice (some ⟨g,0,none⟩) (L+1) c)).heap[k]? =wz.heap[k]? :=λk hk=>Below.heap_setCell wz ⟨b,2,none⟩ _ k hk
      refine⟨HOK.out,Pz.set 2 _,(S4.out.drew.bG (hz.block bs S4.out.lt (nq hgs))).bG (hne bs HD.out.PN), ?_,(M4.out.bD (hz.block bm M4.out.lt (nq hgm))).bD (hne bm HD.out.Sw)⟩;rw[HLP.out,HXE.out];exact bC hown7 (λk e=>hne k (by
        have:g=k:=by simpa[Value.ownBlock]using e
        omega))
     have K6:=h_ ((K4.out.drew.trans (G:=λk=>k=g) hz (λk _ f=>by subst f;exact .inr (.inr (.inr (by rw[HHP.out];rfl))))).setCell (p:=⟨b,2,none⟩) (λ_=> .inl rfl) (.slice (some ⟨g,0,none⟩) (L+1) c));have HP6:Hid (∀k,(Value.slice (some ⟨g,0,none⟩) (L+1) c).ownBlock=some k->pv.ownBlock=some k\/w.heap.size<=k):=λk e=> .inl (by
      rw[HHP.out];exact e)
     simp only[fm,fo];clear hBz hh hown7 hz Pz HPV HPV2 P4 S4 R4 M4 B4 K4 HXE HLP HI HZ0 HZ1 HZ2 EXS hc1 hc2 hc3 hcur hcs htk hlen HHP;have F6:=h_ (qc D6.out);have hw0:=D6.out.ok.w0;have hw1:=D6.out.ok.w1;cases hf:d.dh with
     |true=>
      have hf':(d.push (m:Int) t.data.toList).dh=true:=hf;rw[hf',nP _ hf']at F6;have e3:DD.write n d (m:Int) t.data.toList=((d.push (m:Int) t.data.toList).fail d.writes d.bytes,21):=by rw[E2.out,hf];rfl
      have E3:=h_ e3;clear e3 hf hf';go_wp2_with fail;refine F6.out.mono ?_;rintro e w7 ⟨rfl,h7,k7⟩;have c6:=h7.bg.ag 6 _ rfl;have c7:=h7.bg.ag 7 _ rfl;have D7:=h_ h7;have K7:=h_ (K6.out.trans k7 (λk hk f=>iY (w0:=w) (.inl rfl) HP6.out k hk f));clear h7 k7 F6;go_wp2_with fail;refine Free.ai 9 [] (λw2=>w2.cell? ⟨b,6,none⟩=some (.int .i64 d.writes)/\w2.cell? ⟨b,7,none⟩=some (.int .i64 d.bytes)) (by kernel_rfl) (by kernel_rfl) ?_ ⟨c6,c7⟩ (λ_ _ h g=>⟨df h.1 g,df h.2 g⟩) ?_
      ·intro j mk r hf;simp only[Free.find]at hf;cases hf
      simp only[eJ,dT];clear c6 c7;iterate 9 (apply Free.ae (Free.wq rfl) rfl;(intro w' hB hA;obtain⟨q0,q1⟩:=hB;clear hA;go_light;go_simp<;>rfl);(try simp only[Pt]))
      apply Free.ax;intro w8 _ hg _;simp only[fm,fo];have hz:=fC hg;have D8:=h_ (D7.out.below hz);have K8:=h_ (K7.out.trans (G:=λ_=>False) (aJ.aY hz) (λ_ _ f=>f.elim));clear hg hz;go_wp2_with fail;refine(oD D8.out d.writes d.bytes hw0 hw1).mono ?_;rintro e w9 ⟨rfl,bm9,pv9,h9,k9,hb9,hp9⟩;have fin:dK w b bs bm n pv ((d.push (m:Int) t.data.toList).fail d.writes d.bytes) (.int .i64 21) (.returned (.int .i64 21)) w9:=
       ⟨rfl,bm9,pv9,h9,K8.out.trans k9 (λk hk f=>iY (w0:=w) (.inl rfl) HP6.out k hk f),hb9.imp id (λh=>fO K8.out.size h),λk e=>(hp9 k e).elim (λe'=>HP6.out k e') (λh=> .inr (fO K8.out.size h)),λe=>by cases e⟩
      have FIN:Hid (dK w b bs bm n pv (DD.write n d (m:Int) t.data.toList).1 (.int .i64 (DD.write n d (m:Int) t.data.toList).2) (.returned (.int .i64 21)) w9):=by show dK _ _ _ _ _ _ _ _ _ _;rw[E3.out];exact fin
      clear fin h9 k9 hb9 hp9;go_wp2_with fail;go_ret;exact FIN.out
     |false=>
      have hf':(d.push (m:Int) t.data.toList).dh=false:=hf;rw[hf']at F6;have e3:DD.write n d (m:Int) t.data.toList=((d.push (m:Int) t.data.toList).tick,0):=by rw[E2.out,hf];rfl
      have E3:=h_ e3;clear e3 hf hf';go_wp2_with fail;refine F6.out.mono ?_;rintro e w7 ⟨rfl,h7,k7⟩;have fin:dK w b bs bm n pv (d.push (m:Int) t.data.toList).tick (.int .i64 0) (.returned (.int .i64 0)) w7:=
       ⟨rfl,bm,_,h7,K6.out.trans k7 (λk hk f=>iY (w0:=w) (.inl rfl) HP6.out k hk f), .inl rfl,HP6.out,λ_=>rfl⟩
      have FIN:Hid (dK w b bs bm n pv (DD.write n d (m:Int) t.data.toList).1 (.int .i64 (DD.write n d (m:Int) t.data.toList).2) (.returned (.int .i64 0)) w7):=by show dK _ _ _ _ _ _ _ _ _ _;rw[E3.out];exact fin
      clear fin h7 k7 F6;go_wp2_with fail;go_ret;exact FIN.out
    ·have HRM:Hid (∀g cap,pv= .slice (some ⟨g,0,none⟩) L cap->cap<L+1):=λg cap e=>Nat.lt_of_not_le (λhc=>hroom ⟨g,cap,e,hc⟩)
     clear hroom;have k2:=P4.out.drew.ag 2 _ rfl;rw[HPV2.out]at k2;go_wp2_with fail;refine Free.ai 10 [(6, .ind (λg=> .slice (some ⟨g,0,none⟩) 1 1) (λg w2=>ay w2 g (bu x) 203)),(7, .ind (λy=> .slice (some ⟨y / 18446744073709551616,0,none⟩) (L+1) (y % 18446744073709551616)) (λy w2=>w2.ownsRow 0 203 33 (.slice (some ⟨y / 18446744073709551616,0,none⟩) (L+1) (y % 18446744073709551616)) (L+1) (xs++bu x)/\w4.heap.size<=y / 18446744073709551616))]
      (λw2=>w2.cell? ⟨b,2,none⟩=some (.slice A L c)/\ay w2 w.heap.size (bu x) 203/\w2.ownsRow 0 203 33 pv L xs/\w4.heap.size<=w2.heap.size) (by kernel_rfl) (by kernel_rfl) ?_ ⟨k2,B4.out.drew,R4.out,aL _⟩
      (λw1 w2 h g=>⟨df h.1 g,h.2.1.below g h.2.1.lt,bC h.2.2.1 (λk e=>g.block k (h.2.2.1.lt k e).2),fO h.2.2.2 g.size⟩) ?_
     ·intro j mk r hf y w1 w2 hr g;simp only[Free.find]at hf
      repeat' split at hf
      ·cases hf;exact hr.below g hr.lt
      ·cases hf;exact⟨bC hr.1 (λk e=>g.block k (hr.1.lt k e).2),hr.2⟩
      ·cases hf
     simp only[eJ,dT];clear k2;iterate 7 (first|(apply Free.ae rfl rfl;(intro w' hB hA;exact oC rfl (by rfl) hB.2.1 Tryz.underlying203 rfl (by rw[tY,HE.out];kernel_rfl));simp only[Pt])|(apply Free.aR rfl rfl;(intro w' hB hA;refine Free.cq (v:= .slice (some ⟨w'.heap.size,0,none⟩) 1 1) (w':=w'.alloc (.cells (bu x).toArray 203)) ?_ ⟨(Below.refl _ _).alloc (aL _) _,w'.heap.size,rfl,ay.new w' (bu x) 203⟩;have hb:=Apk.fj (P:=Tryz.prog) w' 133 203 i0 _ Tryz.underlying133 HI.out HZ0.out (bu x).toArray (by rw[tY,HE.out,HZ1.out]) (by rw[HZ1.out];decide) (by rw[HZ1.out];decide);exact fB rfl hb))|(apply Free.ae (Free.wq rfl) rfl;(intro w' hB hA;obtain⟨q0,q1,q2,q3⟩:=hB;clear hA q1 q2 q3;go_light;go_simp<;>rfl);(try simp only[Pt])))
     intro g6;simp only[Pt];apply Free.aR rfl rfl
     ·intro w' hB hA;have h6:ay w' g6 (bu x) 203:=hA _ dH (by kernel_rfl);obtain⟨cap,w5,hrun,hown5,hgr5⟩:=Apk.oi (P:=Tryz.prog) w' 0 133 133 203 i0 _ 33 40 Tryz.underlying133 HI.out HZ0.out HZ1.out HZ2.out rfl (by decide) pv L xs hB.2.2.1 ⟨g6,0,none⟩ 1 1 (bu x) (by rw[HE.out]) (λj u hu=>by rw[addr_add,nW];exact h6.ag j u hu) (λu hu=>lT u hu) (by unfold maxLen;omega) (by omega) (gu _) (by decide) HRM.out;have hcap:cap<18446744073709551616:=by
       obtain⟨_,h0|⟨g',cap',cur',e',_,_,_,hc',_⟩⟩:=hown5
       ·exact absurd h0.2 (by omega)
       ·injection e' with _ _ e3;subst e3;unfold maxLen at hc';omega
      have e1:(w'.heap.size*18446744073709551616+cap) / 18446744073709551616=w'.heap.size:=by omega
      have e2:(w'.heap.size*18446744073709551616+cap) % 18446744073709551616=cap:=by omega
      refine Free.cq (v:= .slice (some ⟨w'.heap.size,0,none⟩) (L+1) cap) (w':=w5) ?_ ⟨⟨hgr5.os,hgr5.tape,hgr5.output,hgr5.size,λk hk=>hgr5.block k hk (by simp)⟩,w'.heap.size*18446744073709551616+cap,by rw[e1,e2],by rw[e1,e2];exact⟨hown5,hB.2.2.2⟩⟩;exact dL (s:= .tmp 45) (x:= .tmp 47) rfl (by rw[HPV2.out];rfl) rfl hrun
     intro y;simp only[Pt];iterate 2 (apply Free.ae (Free.wq rfl) rfl;(intro w' hB hA;obtain⟨q0,q1,q2,q3⟩:=hB;clear hA q0 q1 q2 q3;go_light;go_simp<;>rfl);(try simp only[Pt]))
     apply Free.ax;intro wz hBz hg hh;have h7:=hh _ dH;simp only at h7;obtain⟨hown7,hfr7⟩:=h7;have hz:=fC hg;have Pz:=P4.out.below hz P4.out.lt;have hlb:b<w4.heap.size:=P4.out.lt;have f2:=Pz.frozen 2;have c2:=Pz.ag 2 _ rfl;have D6:Hid (aI (wz.setCell ⟨b,2,none⟩ (.slice (some ⟨y / 18446744073709551616,0,none⟩) (L+1) (y % 18446744073709551616))) b bs bm (.slice (some ⟨y / 18446744073709551616,0,none⟩) (L+1) (y % 18446744073709551616)) (d.push (m:Int) t.data.toList) n):=by
      show aI _ _ _ _ _ _ _;have hne:∀k,k≠b->(wz.setCell ⟨b,2,none⟩ (.slice (some ⟨y / 18446744073709551616,0,none⟩) (L+1) (y % 18446744073709551616))).heap[k]? =wz.heap[k]? :=λk hk=>Below.heap_setCell wz ⟨b,2,none⟩ _ k hk
      refine⟨HOK.out,Pz.set 2 _,(S4.out.below hz S4.out.lt).bG (hne bs HD.out.PN), ?_,(M4.out.bD (hz.block bm M4.out.lt)).bD (hne bm HD.out.Sw)⟩;rw[HLP.out,HXE.out];exact bC hown7 (λk e=>hne k (by
        have:y / 18446744073709551616=k:=by simpa[Value.ownBlock]using e
        omega))
     have K6:=h_ ((K4.out.trans (G:=λ_=>False) (aJ.aY hz) (λ_ _ f=>f.elim)).setCell (p:=⟨b,2,none⟩) (λ_=> .inl rfl) (.slice (some ⟨y / 18446744073709551616,0,none⟩) (L+1) (y % 18446744073709551616)));have HP6:Hid (∀k,(Value.slice (some ⟨y / 18446744073709551616,0,none⟩) (L+1) (y % 18446744073709551616)).ownBlock=some k->pv.ownBlock=some k\/w.heap.size<=k):=λk e=> .inr (by
      have:y / 18446744073709551616=k:=by simpa[Value.ownBlock]using e
      have:=K4.out.size;omega)
     simp only[fm,fo];clear hBz hg hh hown7 hfr7 hz Pz hlb HPV HPV2 HRM P4 S4 R4 M4 B4 K4 HXE HLP HI HZ0 HZ1 HZ2 EXS;have F6:=h_ (qc D6.out);have hw0:=D6.out.ok.w0;have hw1:=D6.out.ok.w1;cases hf:d.dh with
     |true=>
      have hf':(d.push (m:Int) t.data.toList).dh=true:=hf;rw[hf',nP _ hf']at F6;have e3:DD.write n d (m:Int) t.data.toList=((d.push (m:Int) t.data.toList).fail d.writes d.bytes,21):=by rw[E2.out,hf];rfl
      have E3:=h_ e3;clear e3 hf hf';go_wp2_with fail;refine F6.out.mono ?_;rintro e w7 ⟨rfl,h7,k7⟩;have c6:=h7.bg.ag 6 _ rfl;have c7:=h7.bg.ag 7 _ rfl;have D7:=h_ h7;have K7:=h_ (K6.out.trans k7 (λk hk f=>iY (w0:=w) (.inl rfl) HP6.out k hk f));clear h7 k7 F6;go_wp2_with fail;refine Free.ai 9 [] (λw2=>w2.cell? ⟨b,6,none⟩=some (.int .i64 d.writes)/\w2.cell? ⟨b,7,none⟩=some (.int .i64 d.bytes)) (by kernel_rfl) (by kernel_rfl) ?_ ⟨c6,c7⟩ (λ_ _ h g=>⟨df h.1 g,df h.2 g⟩) ?_
      ·intro j mk r hf;simp only[Free.find]at hf;cases hf
      simp only[eJ,dT];clear c6 c7;iterate 9 (apply Free.ae (Free.wq rfl) rfl;(intro w' hB hA;obtain⟨q0,q1⟩:=hB;clear hA;go_light;go_simp<;>rfl);(try simp only[Pt]))
      apply Free.ax;intro w8 _ hg _;simp only[fm,fo];have hz:=fC hg;have D8:=h_ (D7.out.below hz);have K8:=h_ (K7.out.trans (G:=λ_=>False) (aJ.aY hz) (λ_ _ f=>f.elim));clear hg hz;go_wp2_with fail;refine(oD D8.out d.writes d.bytes hw0 hw1).mono ?_;rintro e w9 ⟨rfl,bm9,pv9,h9,k9,hb9,hp9⟩;have fin:dK w b bs bm n pv ((d.push (m:Int) t.data.toList).fail d.writes d.bytes) (.int .i64 21) (.returned (.int .i64 21)) w9:=
       ⟨rfl,bm9,pv9,h9,K8.out.trans k9 (λk hk f=>iY (w0:=w) (.inl rfl) HP6.out k hk f),hb9.imp id (λh=>fO K8.out.size h),λk e=>(hp9 k e).elim (λe'=>HP6.out k e') (λh=> .inr (fO K8.out.size h)),λe=>by cases e⟩
      have FIN:Hid (dK w b bs bm n pv (DD.write n d (m:Int) t.data.toList).1 (.int .i64 (DD.write n d (m:Int) t.data.toList).2) (.returned (.int .i64 21)) w9):=by show dK _ _ _ _ _ _ _ _ _ _;rw[E3.out];exact fin
      clear fin h9 k9 hb9 hp9;go_wp2_with fail;go_ret;exact FIN.out
     |false=>
      have hf':(d.push (m:Int) t.data.toList).dh=false:=hf;rw[hf']at F6;have e3:DD.write n d (m:Int) t.data.toList=((d.push (m:Int) t.data.toList).tick,0):=by rw[E2.out,hf];rfl
      have E3:=h_ e3;clear e3 hf hf';go_wp2_with fail;refine F6.out.mono ?_;rintro e w7 ⟨rfl,h7,k7⟩;have fin:dK w b bs bm n pv (d.push (m:Int) t.data.toList).tick (.int .i64 0) (.returned (.int .i64 0)) w7:=
       ⟨rfl,bm,_,h7,K6.out.trans k7 (λk hk f=>iY (w0:=w) (.inl rfl) HP6.out k hk f), .inl rfl,HP6.out,λ_=>rfl⟩
      have FIN:Hid (dK w b bs bm n pv (DD.write n d (m:Int) t.data.toList).1 (.int .i64 (DD.write n d (m:Int) t.data.toList).2) (.returned (.int .i64 0)) w7):=by show dK _ _ _ _ _ _ _ _ _ _;rw[E3.out];exact fin
      clear fin h7 k7 F6;go_wp2_with fail;go_ret;exact FIN.out
   ·have e2:DD.write n d s t.data.toList=(d,1):=by simp[DD.write,hon,hh,htl,h32]
    rw[e2];rw[hh]at H1;have HD:=h_ (sx h (.int .i64 1));have hsz1:((t.size:Int) !=32)=true:=by simp;omega
    clear e2 h hon hh htl h32;go_enter Tryz.func190,Tryz.ntmps190;go_wp2_with fail;refine H1.out.mono ?_;rintro e w' ⟨rfl,rfl⟩;go_wp2_with fail;go_ret;exact HD.out
theorem As(h:aI w b bs bm pv d n)(s:Int)(t:ByteArray)(hfew:d.aF.length<1000000):
  Calls Tryz.prog 190 #[.pointer (some ⟨b,0,none⟩), .int .i64 s, .string t] w (eM w b bs bm n pv (DD.write n d s t.data.toList).1 (.int .i64 (DD.write n d s t.data.toList).2)):=
 (tV h s t hfew).mono λ_ _ h=>h.less
end
end Go.Proofs.YtkmbmfengcdmoaaGreatDoor
namespace Go.Proofs.YtkmbmfengcdmoaaGreatDoor
open Go.RowKit Go.ay
structure ei where
 ref:Int
 act:Int
 low:Int
 high:Int
 cJ:Int
 secret:Bool
def bU(x:ei):List Value:= [.int .i64 x.ref, .int .i64 x.act, .int .i64 x.low, .int .i64 x.high, .int .i64 x.cJ, .bool x.secret]
structure ei.Ok (x:ei):Prop where
 r0: -9223372036854775808<=x.ref
 r1:x.ref<=9223372036854775807
 a0: -9223372036854775808<=x.act
 a1:x.act<=9223372036854775807
 l0: -9223372036854775808<=x.low
 l1:x.low<=9223372036854775807
 h0: -9223372036854775808<=x.high
 h1:x.high<=9223372036854775807
 f0: -9223372036854775808<=x.cJ
 f1:x.cJ<=9223372036854775807
def Bt(b:Bool):Int:=if b then 1 else 0
def l8(x:ei):Nat->Int
 |0=>x.ref
 |1=>x.act
 |2=>x.low
 |3=>x.high
 |4=>x.cJ
 |_=>Bt x.secret
def pE(x:ei):Nat->ByteArray
 |0=>⟨#[102,97,99,116]⟩
 |k+1=>pE x k++(⟨#[32]⟩++dec (l8 x k))
def iT(x:ei):ByteArray:=pE x 6
theorem oM{x:ei}(h:x.Ok):∀k, -9223372036854775808<=l8 x k/\l8 x k<=9223372036854775807
 |0=>⟨h.r0,h.r1⟩
 |1=>⟨h.a0,h.a1⟩
 |2=>⟨h.l0,h.l1⟩
 |3=>⟨h.h0,h.h1⟩
 |4=>⟨h.f0,h.f1⟩
 |_+5=>by show _<=Bt x.secret/\Bt x.secret<=_;unfold Bt;split<;>omega
theorem om{x:ei}(h:x.Ok):∀k,(pE x k).size<=4+22*k
 |0=>aL 4
 |k+1=>by
  have:=om h k;have h2:=cR _ (oM h k).1 (oM h k).2;have h3:(⟨#[32]⟩:ByteArray).size=1:=rfl;show(pE x k++(⟨#[32]⟩++dec (l8 x k))).size<=_;rw[NR,NR,h3];omega
theorem QN(a b c d e f v:Int)(k:Nat)(hk:k<6)(hv:(#[Value.int .i64 a, .int .i64 b, .int .i64 c, .int .i64 d, .int .i64 e, .int .i64 f]:Array Value)[k]? =some (.int .i64 v))(W:World):
  (Instr.index 142 (.agg #[.int .i64 a, .int .i64 b, .int .i64 c, .int .i64 d, .int .i64 e, .int .i64 f]) (.int .i64 (k:Int))).run Tryz.prog W= .ok (.int .i64 v) W:=by
 match k,hk with
 |0,_=>cases hv;go_simp<;>rfl
 |1,_=>cases hv;go_simp<;>rfl
 |2,_=>cases hv;go_simp<;>rfl
 |3,_=>cases hv;go_simp<;>rfl
 |4,_=>cases hv;go_simp<;>rfl
 |5,_=>cases hv;go_simp<;>rfl
def N9(w:World)(x:ei)(t i:Value)(wr:World):Prop:=∃k:Nat,k<=6/\i= .int .i64 k/\t= .string (pE x k)/\Below w.heap.size w wr
set_option maxHeartbeats 2000000 in
theorem xW(x0:ei)(w:World)(ho:x0.Ok)(hT:cB w):
  Calls Tryz.prog 26 #[.agg (bU x0).toArray] w λe w'=>e= .returned (.string (iT x0))/\Below w.heap.size w w':=by
 have NOK:=h_ (oM ho);have SZ:=h_ (om ho);have HT:=h_ hT;have HST:Hid (N9 w x0 (.string ⟨#[102,97,99,116]⟩) (.int .i64 0) (w.alloc (.cells (bU x0).toArray 29))):=⟨0,by decide,rfl,rfl,(Below.refl _ _).alloc (aL _) _⟩
 have HIX:Hid (∀k,k<6->(#[Value.int .i64 x0.ref, .int .i64 x0.act, .int .i64 x0.low, .int .i64 x0.high, .int .i64 x0.cJ, .int .i64 (Bt x0.secret)]:Array Value)[k]? =some (.int .i64 (l8 x0 k))):=by
  intro k hk
  match k,hk with
  |0,_=>rfl
  |1,_=>rfl
  |2,_=>rfl
  |3,_=>rfl
  |4,_=>rfl
  |5,_=>rfl
 obtain⟨R,eR⟩:=x_ (pE x0 6)
 show Calls Tryz.prog 26 #[.agg (bU x0).toArray] w λe w'=>e= .returned (.string (pE x0 6))/\Below w.heap.size w w'
 clear hT ho eR;cases hsec:x0.secret with
 |true=>
  obtain⟨xr,xa,xl,xh,xf,xs⟩:=x0;dsimp only at hsec;subst hsec;obtain⟨x0,ex0⟩:=x_ (⟨xr,xa,xl,xh,xf,true⟩:ei)
  have HIX2:Hid (∀k,k<6->(#[Value.int .i64 xr, .int .i64 xa, .int .i64 xl, .int .i64 xh, .int .i64 xf, .int .i64 1]:Array Value)[k]? =some (.int .i64 (l8 x0 k))):=by rw[ex0];exact HIX
  rw[<-ex0]at NOK SZ;have HST2:Hid (N9 w x0 (.string ⟨#[102,97,99,116]⟩) (.int .i64 0) (w.alloc (.cells #[.int .i64 xr, .int .i64 xa, .int .i64 xl, .int .i64 xh, .int .i64 xf, .bool true] 29))):=by rw[ex0];exact HST
  rw[<-ex0];clear HIX HST;have HIX:=HIX2;have HST:=HST2;clear HIX2 HST2;have EX:=h_ ex0;rw[show bU x0= [.int .i64 xr, .int .i64 xa, .int .i64 xl, .int .i64 xh, .int .i64 xf, .bool true] by rw[ex0];rfl];clear ex0;go_enter Tryz.func26,Tryz.ntmps26;go_wp2_with fail
  go_loopw [4,21] (λt i wr=>N9 w x0 t i wr) (λ_ i _=>6- (intOf i).toNat)
  case atStart=>exact HST.out
  case round=>
   clear HST;obtain⟨k,hk,rfl,rfl,hbr⟩:=hrel;have HBR:=h_ hbr;clear hbr;by_cases hk6:k<6
   ·have nk:=NOK.out k;have sz:=SZ.out k;have hki:(k:Int)<6:=by omega
    have k00:(0:Int)<=(k:Int):=by omega
    have hix:=HIX.out k hk6;obtain⟨v,ev⟩:=x_ (l8 x0 k)
    rw[<-ev]at hix nk;have hidx:=QN _ _ _ _ _ _ v k hk6 hix;have hds:=cR v nk.1 nk.2;have IT:=h_ (λw hT=>fg v w nk.1 nk.2 hT);have BP:Hid (pE x0 (k+1)=pE x0 k++(⟨#[32]⟩++dec v)):=by show _=_;rw[ev];rfl
    obtain⟨tk,etk⟩:=x_ (pE x0 k)
    rw[<-etk]at sz BP⊢;have z1: ¬9223372036854775807<1+(dec v).size:=by omega
    have z2: ¬9223372036854775807<tk.size+(1+(dec v).size):=by omega
    clear hix ev etk;go_wp2_with fail;refine(IT.out _ (HT.out.below HBR.out (aL _))).mono ?_;rintro e w3 ⟨rfl,hb3⟩;have KEY:Hid (N9 w x0 (.string (tk++(⟨#[32]⟩++dec v))) (.int .i64 ((k:Int)+1)) w3):=⟨k+1,hk6,by go_num,by rw[BP.out],HBR.out.trans (hb3.mono HBR.out.size)⟩
    clear hb3 HBR IT BP hidx;go_wp2_with fail
    go_roundw
    case rel=>
     go_light;have key:=KEY.out;first|exact key|((repeat apply Exists.intro);exact⟨key,rfl⟩)
    case measure=>simp[intOf];omega
   ·obtain rfl:k=6:=by omega
    go_wp2_with fail;go_ret;exact⟨rfl,HBR.out⟩
 |false=>
  obtain⟨xr,xa,xl,xh,xf,xs⟩:=x0;dsimp only at hsec;subst hsec;obtain⟨x0,ex0⟩:=x_ (⟨xr,xa,xl,xh,xf,false⟩:ei)
  have HIX2:Hid (∀k,k<6->(#[Value.int .i64 xr, .int .i64 xa, .int .i64 xl, .int .i64 xh, .int .i64 xf, .int .i64 0]:Array Value)[k]? =some (.int .i64 (l8 x0 k))):=by rw[ex0];exact HIX
  rw[<-ex0]at NOK SZ;have HST2:Hid (N9 w x0 (.string ⟨#[102,97,99,116]⟩) (.int .i64 0) (w.alloc (.cells #[.int .i64 xr, .int .i64 xa, .int .i64 xl, .int .i64 xh, .int .i64 xf, .bool false] 29))):=by rw[ex0];exact HST
  rw[<-ex0];clear HIX HST;have HIX:=HIX2;have HST:=HST2;clear HIX2 HST2;have EX:=h_ ex0;rw[show bU x0= [.int .i64 xr, .int .i64 xa, .int .i64 xl, .int .i64 xh, .int .i64 xf, .bool false] by rw[ex0];rfl];clear ex0;go_enter Tryz.func26,Tryz.ntmps26;go_wp2_with fail
  go_loopw [4,21] (λt i wr=>N9 w x0 t i wr) (λ_ i _=>6- (intOf i).toNat)
  case atStart=>exact HST.out
  case round=>
   clear HST;obtain⟨k,hk,rfl,rfl,hbr⟩:=hrel;have HBR:=h_ hbr;clear hbr;by_cases hk6:k<6
   ·have nk:=NOK.out k;have sz:=SZ.out k;have hki:(k:Int)<6:=by omega
    have k00:(0:Int)<=(k:Int):=by omega
    have hix:=HIX.out k hk6;obtain⟨v,ev⟩:=x_ (l8 x0 k)
    rw[<-ev]at hix nk;have hidx:=QN _ _ _ _ _ _ v k hk6 hix;have hds:=cR v nk.1 nk.2;have IT:=h_ (λw hT=>fg v w nk.1 nk.2 hT);have BP:Hid (pE x0 (k+1)=pE x0 k++(⟨#[32]⟩++dec v)):=by show _=_;rw[ev];rfl
    obtain⟨tk,etk⟩:=x_ (pE x0 k)
    rw[<-etk]at sz BP⊢;have z1: ¬9223372036854775807<1+(dec v).size:=by omega
    have z2: ¬9223372036854775807<tk.size+(1+(dec v).size):=by omega
    clear hix ev etk;go_wp2_with fail;refine(IT.out _ (HT.out.below HBR.out (aL _))).mono ?_;rintro e w3 ⟨rfl,hb3⟩;have KEY:Hid (N9 w x0 (.string (tk++(⟨#[32]⟩++dec v))) (.int .i64 ((k:Int)+1)) w3):=⟨k+1,hk6,by go_num,by rw[BP.out],HBR.out.trans (hb3.mono HBR.out.size)⟩
    clear hb3 HBR IT BP hidx;go_wp2_with fail
    go_roundw
    case rel=>
     go_light;have key:=KEY.out;first|exact key|((repeat apply Exists.intro);exact⟨key,rfl⟩)
    case measure=>simp[intOf];omega
   ·obtain rfl:k=6:=by omega
    go_wp2_with fail;go_ret;exact⟨rfl,HBR.out⟩
end Go.Proofs.YtkmbmfengcdmoaaGreatDoor
