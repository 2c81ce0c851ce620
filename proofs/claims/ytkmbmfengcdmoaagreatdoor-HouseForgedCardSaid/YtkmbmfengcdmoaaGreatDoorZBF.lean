/- Package house: a house with its journal and disk; store. Condition: the variable of strconv holds its numbers. -/
import Derived.Test.YtkmbmfengcdmoaaGreatDoorZBE
import Derived.Test.YtkmbmfengcdmoaaGreatDoorZAZ
import Derived.Test.YtkmbmfengcdmoaaGreatDoorZAR
set_option maxRecDepth 100000
set_option linter.all false
namespace Go.Proofs.YtkmbmfengcdmoaaGreatDoor
open Go.RowKit Go.ay Go.Jn Go.Dk Go.Ho Go.Opn Go.Maps Go.WideMaps Go.Apl Go.Mg Go.Rf Go.Lib
attribute [local go_sem] Oper.semAt_some

open Classical in
noncomputable def iL (t:ByteArray):Option ei:=if h:∃x:ei,x.Ok/\iT x=t then some (Classical.choose h)else none
theorem qX{t:ByteArray}{x:ei}(h:x.Ok)(e:iT x=t):iL t=some x:=by
 have hx:∃x:ei,x.Ok/\iT x=t:=⟨x,h,e⟩
 unfold iL;rw[dif_pos hx];have h2:=P9 hx;rw[La h2.1 h (h2.2.trans e.symm)]
theorem qW{t:ByteArray}(h:∀x:ei,x.Ok->iT x≠t):iL t=none:=by unfold iL;rw[dif_neg (λ⟨x,h1,h2⟩=>h x h1 h2)]
theorem FC{t:ByteArray}{x:ei}(h:iL t=some x):x.Ok/\iT x=t:=by
 unfold iL at h;split at h
 ·rename_i hx;cases h
  exact P9 hx
 ·cases h
noncomputable def kx (s:HS) (F:List ei) (e:aV):List ei:=match iL e.body with
 |none=>F
 |some x=>if dE s x&&((x.cJ==e.day)&& !(F.any λy=>y.ref==x.ref))then F++ [x]else F
noncomputable def cg (s:HS) (C:List aV):List ei:=C.foldl (kx s) []
noncomputable def dP (s:HS) (house:Int):List ei:=cg s (bE s house)
theorem im(s:HS)(C:List aV)(e:aV):cg s (C++ [e])=kx s (cg s C) e:=by unfold cg;rw[PA];rfl
theorem He(s:HS)(F:List ei)(e:aV):(kx s F e).length<=F.length+1:=by
 unfold kx;split
 ·omega
 ·split<;>simp
theorem uV(s:HS):∀(C:List aV) (F:List ei),(C.foldl (kx s) F).length<=F.length+C.length
 | [],F=>aL _
 |e::C,F=>by
  have h1:=uV s C (kx s F e);have h2:=He s F e;rw[RY,kq];omega
theorem nD(s:HS)(C:List aV):(cg s C).length<=C.length:=by have:=uV s C [];unfold cg;simpa using this
def nV(n:Int):Value:= .int .i64 n
def PM(n:Int):Prop:= -9223372036854775808<=n/\n<=9223372036854775807
theorem Dg:Mk.Key Tryz.prog 3 nV PM:=
 ⟨int_keyed Tryz.underlying3,λx hx=>⟨_,keyOf_int_mk Tryz.underlying3 (by unfold PM at hx;exact WalkArith.wf_i64 (by omega))⟩,λx y _ _ h=>by injection h⟩
def bV(b:Bool):Value:= .bool b
def tE(F:List ei):List (Int×Bool):=F.map λx=>(x.ref,true)
theorem IH(F:List ei)(r:Int):((Mk.get (tE F) r).map bV).getD (.bool false)= .bool (F.any λy=>y.ref==r):=by
 unfold tE;induction F with
 |nil=>rfl
 |cons x F ih=>
  rw[xJ,Mk.get,List.any_cons];by_cases h:x.ref=r
  ·simp only[h,if_pos,beq_self_eq_true,Bool.true_or];rfl
  ·rw[if_neg h,ih,show(x.ref==r)=false by simpa using h,Bool.false_or]
theorem JK{F:List ei}{x:ei}(h:(F.any λy=>y.ref==x.ref)=false):Mk.put (tE F) x.ref true=tE (F++ [x]):=by
 unfold tE;rw[Mk.mf,uE];rfl;intro p hp e;obtain⟨y,hy,rfl⟩:=nS.1 hp
 have:=List.any_eq_false.1 h y hy;simp at this;exact this e
theorem AR:∃i,Tryz.prog.info? 29=some i/\i.zero=some (.agg bK)/\i.size=6/\i.bytes=48:=by
 have h:(Tryz.prog.info? 29).map (λi=>(i.zero,i.size,i.bytes))=some (some (.agg bK),6,48):=by kernel_rfl
 cases hi:Tryz.prog.info? 29 with
 |none=>rw[hi]at h;cases h
 |some i=>rw[hi]at h;simp only[GK,NS,NO]at h;exact⟨i,rfl,h.1,h.2.1,h.2.2⟩
theorem jW(x:ei):(bU x).length=6:=rfl
theorem lQ(x:ei):∀u∈bU x,u.oneCell'=true:=by
 intro u hu;simp only[bU,lC,DR,DW]at hu;rcases hu with rfl|rfl|rfl|rfl|rfl|rfl<;>rfl
structure xD (W:World) (hb:Nat) (s:HS) {C:List aV} (pre:List (jR C)) (w:World):Prop where
 ex:∃v,ay w (W.heap.size+1) [v] 73/\w.ownsRow (W.heap.size+4) 29 6 v (cg s (cn pre)).length ((cg s (cn pre)).flatMap bU)
 mp:Mk.bL w nV PM bV (W.heap.size+2) (tE (cg s (cn pre)))
 box:w.cell? ⟨W.heap.size+3,0,none⟩=some (.map (some (W.heap.size+2)))
 AN:w.cell? ⟨W.heap.size,0,none⟩=some (.pointer (some ⟨hb,0,none⟩))
 below:Below W.heap.size W w
 size:W.heap.size+4<=w.heap.size
section
variable {W w w':World} {hb:Nat} {s:HS} {C:List aV} {pre:List (jR C)}
theorem xD.grow(h:xD W hb s pre w)(hb':Below w.heap.size w w'):xD W hb s pre w':=by obtain⟨⟨v,h1,h2⟩,h3,h4,h5,h6,h7⟩:=h;exact⟨⟨v,h1.below hb' h1.lt,bC h2 (λk e=>hb'.block k (World.ownsRow.lt h2 k e).2)⟩,h3.bD (hb'.block _ h3.lt),by rw[hb'.cell (World.block_lt_of_cell? w _ h4)];exact h4,by rw[hb'.cell (World.block_lt_of_cell? w _ h5)];exact h5,h6.trans (hb'.mono h6.size),fO h7 hb'.size⟩
theorem xD.own{B:Nat}{row:Option Nat}(h:xD W hb s pre w)(hB:W.heap.size+4<=B)(hg:w.grownBy w' row)(hr:∀r,row=some r->B<=r/\∃o:Obj,w.heap[r]? =some o/\o.isCells=false):xD W hb s pre w':=by
 obtain⟨⟨v,h1,h2⟩,h3,h4,h5,h6,h7⟩:=h;have hne:∀k,k<B->some k≠row:=λk hk e=>by have:=(hr _ e.symm).1;omega
 refine⟨⟨v,h1.bG (hg.block _ h1.lt (hne _ (by omega))),bC h2 (λk e=>hg.block k (World.ownsRow.lt h2 k e).2 (λe2=> ?_))⟩,h3.bD (hg.block _ h3.lt (hne _ (by omega))),sK h4 hg (hne _ (show W.heap.size+3<B by omega)),sK h5 hg (hne _ (show W.heap.size<B by omega)),kz h6 (by omega) hg (λr e=>by have:=(hr r e).1;omega),fO h7 hg.size⟩;obtain⟨_,o,ho,hc⟩:=hr _ e2.symm;rcases h2.2 with⟨h,_⟩|⟨g,cap,cur,h,_,h4,_⟩
 ·rw[h]at e;cases e
 ·rw[h]at e;have e':g=k:=by injection e
  rw[<-e',h4]at ho;cases ho;cases hc
theorem xD.skip(h:xD W hb s pre w)(x:jR C)(hx:kx s (cg s (cn pre)) x.1=cg s (cn pre)):xD W hb s (pre++ [x]) w:=by
 obtain⟨h1,h2,h3,h4,h5,h6⟩:=h;refine⟨?_, ?_,h3,h4,h5,h6⟩
 ·rw[ie,im,hx];exact h1
 ·rw[ie,im,hx];exact h2
end
theorem Bh(t:ByteArray)(w:World)(ht:t.size<=1000000000)(hT:cB w)(hE:gK w):Calls Tryz.prog 81 #[.string t] w (pK t w):=by
 have h:=FD t.data.toList w (by
   have:t.data.toList.length=t.size:=by simp
   omega) hT hE
 simpa using h
theorem rK(cs:List Value)(h:cs.length=6):(Tryz.prog.info? 29).map (·.size)=some cs.length:=by obtain⟨i,h1,_,h2,_⟩:=AR;rw[h1,h];simp[h2]
theorem Cz{y:ei}(h:y.Ok):PM y.ref:=by exact⟨h.r0,h.r1⟩
theorem xP{s:HS}{F:List ei}{e:aV}{y:ei}(h:iL e.body=some y)(hc:(dE s y&&((y.cJ==e.day)&& !(F.any λz=>z.ref==y.ref)))=true):kx s F e=F++ [y]:=by unfold kx;rw[h];simp only[hc,uf]
theorem KT{s:HS}{F:List ei}{e:aV}{y:ei}(h:iL e.body=some y)(hc:(dE s y&&((y.cJ==e.day)&& !(F.any λz=>z.ref==y.ref)))=false):kx s F e=F:=by unfold kx;rw[h];simp[hc]
theorem Hc{s:HS}{F:List ei}{e:aV}(h:iL e.body=none):kx s F e=F:=by unfold kx;rw[h]
theorem xD.push{W wr w1:World}{hb B:Nat}{s:HS}{C:List aV}{pre:List (jR C)}(x:jR C)(y:ei)(h:xD W hb s pre wr)(hb1:Below wr.heap.size wr w1)(hB:W.heap.size+4<=B)(hp:iL x.1.body=some y)
  (hc:(dE s y&&((y.cJ==x.1.day)&& !((cg s (cn pre)).any λz=>z.ref==y.ref)))=true) (hlen:pre.length+1<=1000000):
  ∃w2,(Instr.mapUpdate 161 (.map (some (W.heap.size+2))) (nV y.ref) (bV true)).run Tryz.prog w1= .ok () w2/\w2.heap.size=w1.heap.size/\(∀k,k<w1.heap.size->k≠W.heap.size+2->w2.heap[k]? =w1.heap[k]?)/\
  ∃v A c w4,w2.cell? ⟨W.heap.size+1,0,none⟩=some v/\(Builtin.append_ #[73,73] 73 #[v, .slice (some ⟨w2.heap.size,0,none⟩) 1 1]).run Tryz.prog (w2.alloc (.cells (bU y).toArray 29))= .ok (.slice A ((cg s (cn pre)).length+1) c) w4/\
  w4.cell? ⟨W.heap.size+1,0,none⟩=some v/\w4.frozen? ⟨W.heap.size+1,0,none⟩=false/\xD W hb s (pre++ [x]) (w4.setCell ⟨W.heap.size+1,0,none⟩ (.slice A ((cg s (cn pre)).length+1) c))/\
  ku (λk=>k=W.heap.size+1) (W.heap.size+1) wr (w4.setCell ⟨W.heap.size+1,0,none⟩ (.slice A ((cg s (cn pre)).length+1) c))/\KeepsFrom B wr (w4.setCell ⟨W.heap.size+1,0,none⟩ (.slice A ((cg s (cn pre)).length+1) c)):=by
 have hz1:=hb1.size;have h5:=h.size;have AN:=h.AN;have hbxb:=h.box;obtain⟨⟨v,hk,hown⟩,hmp,_,_,hbl,_⟩:=h.grow hb1;obtain⟨w2,hr2,hmp2,hg2,z2⟩:=hmp.store Dg Tryz.underlying161 (Cz (FC hp).1) true;have hav:((cg s (cn pre)).any λz=>z.ref==y.ref)=false:=by
  cases hq:((cg s (cn pre)).any λz=>z.ref==y.ref)with
  |false=>rfl
  |true=>rw[hq]at hc;simp at hc
 rw[JK hav]at hmp2;have hgb:∀k,k<w1.heap.size->k≠W.heap.size+2->w2.heap[k]? =w1.heap[k]? :=λk hk hne=>hg2.block k hk (λe=>hne (by injection e))
 have hk2:ay w2 (W.heap.size+1) [v] 73:=hk.bG (hgb _ hk.lt (by omega));have hown2:=bC hown (λk e=>hgb k (World.ownsRow.lt hown k e).2 (by have:=(World.ownsRow.lt hown k e).1;omega));obtain⟨iE,hi,hz0,hzs,hby⟩:=AR;obtain⟨w3,e3⟩:=x_ (w2.alloc (.cells (bU y).toArray 29))
 have hb3:Below w2.heap.size w2 w3:=by rw[e3];exact(Below.refl _ _).alloc (aL _) _
 have hown3:=bC hown2 (λk e=>hb3.block k (World.ownsRow.lt hown2 k e).2);have hs3:SL w3 6 bU (some ⟨w2.heap.size,0,none⟩) [y]:=by rw[e3];exact cO jW (ay.new w2 (bU y) 29) (λj u hu=>by simpa using hu)
 have hpl:(cg s (cn pre)).length+1<=1000000:=by have:=nD s (cn pre);rw[mR]at this;omega
 have hz3:=hb3.size;obtain⟨v2,w4,hr4,ho4,hg4,hv4⟩:=nt (P:=Tryz.prog) w3 (W.heap.size+4) 73 73 29 iE _ 48 Tryz.underlying73 hi hz0 hzs hby rfl (by decide) jW lQ v (cg s (cn pre)).length _ hown3 (some ⟨w2.heap.size,0,none⟩) 1 [y] hs3 (by simp only[DT];unfold maxLen;omega) (by simp only[DT];omega) (by omega);rw[DT]at ho4;obtain⟨A4,c4,rfl⟩:=fG ho4;have hk3:=hk2.below hb3 hk2.lt;have hvb:∀k,k<W.heap.size+4->some k≠v.ownBlock:=λk hk e=>by have:=(World.ownsRow.lt hown _ e.symm).1;omega
 have hk4:ay w4 (W.heap.size+1) [v] 73:=hk3.bG (hg4.block _ hk3.lt (hvb _ (by omega)));have hk5:=hk4.set 0 (.slice A4 ((cg s (cn pre)).length+1) c4);have ho5:=bC (w':=w4.setCell ⟨W.heap.size+1,0,none⟩ (.slice A4 ((cg s (cn pre)).length+1) c4)) ho4 (λk e=>Below.heap_setCell _ _ _ _ (by have:=(World.ownsRow.lt ho4 k e).1;show k≠W.heap.size+1;omega));have hkp:=ku.app hk2 hown2 hb3 hg4 hv4 rfl hk5 ho5;have hzz4:=hg4.size;have hg5:∀k,k<w1.heap.size->k≠W.heap.size+2->k≠W.heap.size+1->some k≠v.ownBlock->(w4.setCell ⟨W.heap.size+1,0,none⟩ (.slice A4 ((cg s (cn pre)).length+1) c4)).heap[k]? =w1.heap[k]? :=λk hk h1 h2 h3=>by
  rw[Below.heap_setCell _ _ _ _ (by exact h2),hg4.block k (by omega) h3,hb3.block k (by omega),hgb k hk h1]
 have zC:∀(v:Value),(w4.setCell ⟨W.heap.size+1,0,none⟩ v).heap.size=w4.heap.size:=λv=>by simp
 refine⟨w2,hr2,z2,hgb,v,A4,c4,w4,hk2.ag 0 _ rfl,by rw[<-e3];exact hr4,hk4.ag 0 _ rfl,hk4.frozen 0,⟨⟨_,hk5, ?_⟩, ?_, ?_, ?_, ?_,by rw[zC];omega⟩, ?_, ?_⟩
 ·rw[ie,im,xP hp hc,fu,DU];exact ho5
 ·rw[ie,im,xP hp hc];refine hmp2.bD ?_;rw[Below.heap_setCell _ _ _ _ (by show W.heap.size+2≠W.heap.size+1;omega),hg4.block _ (by omega) (hvb _ (by omega)),hb3.block _ (by omega)]
 ·rw[World.cell?_of_block (a:=⟨W.heap.size+3,0,none⟩) (hg5 _ (show W.heap.size+3<w1.heap.size by omega) (by show W.heap.size+3≠_;omega) (by show W.heap.size+3≠_;omega) (hvb _ (by show W.heap.size+3<_;omega))),hb1.cell (World.block_lt_of_cell? wr _ hbxb)];exact hbxb
 ·rw[World.cell?_of_block (a:=⟨W.heap.size,0,none⟩) (hg5 _ (show W.heap.size<w1.heap.size by omega) (by show W.heap.size≠_;omega) (by show W.heap.size≠_;omega) (hvb _ (by show W.heap.size<_;omega))),hb1.cell (World.block_lt_of_cell? wr _ AN)];exact AN
 ·exact(((hbl.trans ⟨hg2.os,hg2.tape,hg2.output,hg2.size,λk hk=>hgb k (by omega) (by omega)⟩).trans (hb3.mono (by omega))).trans ⟨hg4.os,hg4.tape,hg4.output,hg4.size,λk hk=>hg4.block k (by omega) (hvb _ (by omega))⟩).trans (di (a:=⟨W.heap.size+1,0,none⟩) (by show W.heap.size<=W.heap.size+1;omega) _)
 ·refine(ku.below hb1 (by omega)).trans (ku.trans ⟨by omega,λk hk hcl _ _=>hgb k hk (λe=> ?_), .inl (gU (hgb _ (by omega) (by omega)))⟩ hkp);obtain⟨cc,ct,cf,hcl⟩:=hcl;obtain⟨es,c,hbm,_⟩:=hmp;rw[e,hbm]at hcl;cases hcl
 ·refine((gC hb1).from B).trans (KeepsFrom.trans ⟨by omega,λk o hk ho _=> ?_⟩ (u6 hk2 hown2 hb3 hg4 _));rw[hgb k (iS.1 ho).1 (by omega)];exact ho
theorem KA(w:World):(zeroValue 4).run Tryz.prog w= .ok (.bool false) w:=by kernel_rfl
def GN(W:World)(F:List ei)(e:Ending)(w':World):Prop:=
 ∃v,e= .returned v/\w'.ownsRow (W.heap.size+4) 29 6 v F.length (F.flatMap bU)/\Below W.heap.size W w'
set_option maxHeartbeats 2000000 in
theorem uU(o:Lo)(s:HS)(j:Nat)(W:World)(h:HR W o s)(hi:lv s)(hj:j<s.pubs.length)(hT:cB W)(hE:gK W):
  Calls Tryz.prog 47 #[.pointer (some ⟨o.hb,0,none⟩), .int .i64 (j:Int)] W (GN W (dP s j)):=by
 obtain⟨C,eC⟩:=x_ (bE s (j:Int))
 obtain⟨R,eR⟩:=x_ (GN W (cg s C))
 rw[show dP s j=cg s C by rw[eC];rfl, <-eR];have ER:=h_ eR;have HCF:Hid (C.length<=1000000):=h_ (by rw[eC];unfold bE fA bJ;rw[jQ,rm,fe];have:=gE s.aw (j:Int);have:=hi.e.jX;omega);have hCk:∀e∈C,e.Ok/\e.prev.size<=1000000000/\e.body.size<=1000000000:=λe he=>by
  rw[eC]at he;have he2:=List.mem_of_mem_take he;obtain⟨t,ht,rfl⟩:=nS.1 he2;have h1:=(dY _ _).mem_iff.1 ht;unfold j6 at h1;obtain⟨p,hp,rfl⟩:=nS.1 h1;have h2:=(PY.1 hp).1;have h3:fP s.aw p.1=p.2:=by unfold fP;rw[Mk.get_some h.mp.nodup h2];rfl
  rw[h3];exact hi.e.ok p h2
 have HCK:=h_ hCk;have HH:=h_ h;have HI:=h_ hi;have HT:=h_ hT;have HE:=h_ hE;have EC:=h_ eC;have HJ:=h_ hj;clear eR h hi hT hE eC hj hCk;refine jB 4 Tryz.func47 rfl ?_;simp only[Tryz.ntmps47,tY,kq,qA,Nat.reduceAdd,Nat.reduceSub,M0,MZ,M7,M6,xK,xC];have hmm:= @run_makeMap Tryz.prog;obtain⟨V,eV⟩:=x_ ((((W.alloc (.cells #[.pointer (some ⟨o.hb,0,none⟩)] 50)).alloc (.cells #[.slice none 0 0] 73)).alloc (.map #[] 0)).alloc (.cells #[.map (some (W.heap.size+2))] 161))
 have hbV:Below W.heap.size W V:=by rw[eV];exact((((Below.refl _ _).alloc (aL _) _).alloc (by simp) _).alloc (by simp;omega) _).alloc (by simp;omega) _
 have zV:V.heap.size=W.heap.size+4:=by rw[eV];simp
 have hb0:ay V W.heap.size [.pointer (some ⟨o.hb,0,none⟩)] 50:=by rw[eV];exact(((ay.new W [.pointer (some ⟨o.hb,0,none⟩)] 50).alloc _).alloc _).alloc _
 have hb1:ay V (W.heap.size+1) [.slice none 0 0] 73:=by rw[eV];exact((ay.made (by simp) rfl).alloc _).alloc _
 have hm:Mk.bL V nV PM bV (W.heap.size+2) (tE []):=by rw[eV];have h:=Mk.bL.made (enc:=nV) (ok:=PM) (encV:=bV) ((W.alloc (.cells #[.pointer (some ⟨o.hb,0,none⟩)] 50)).alloc (.cells #[.slice none 0 0] 73));rw[show((W.alloc (.cells #[.pointer (some ⟨o.hb,0,none⟩)] 50)).alloc (.cells #[.slice none 0 0] 73)).heap.size=W.heap.size+2 by simp]at h;exact h.bD (Below.heap_alloc _ _ _ h.lt)
 have hb3:ay V (W.heap.size+3) [.map (some (W.heap.size+2))] 161:=by rw[eV];exact ay.made (by simp) rfl
 have hI0:xD W o.hb s (C:=C) [] V:=⟨⟨_,hb1,World.ownsRow_nil _ _ _ _⟩,hm,hb3.ag 0 _ rfl,hb0.ag 0 _ rfl,hbV,by omega⟩
 have EV:=h_ eV.symm;have H1:=h_ (And.intro hbV (And.intro zV (And.intro hI0 (yU (hb1.ag 0 _ rfl)))));clear eV hbV zV hb0 hb1 hm hb3 hI0;go_wp2_with fail;rw[show W.heap.size+1+1=W.heap.size+2 from rfl,show W.heap.size+2+1=W.heap.size+3 from rfl,EV.out];refine(lP o.hb (j:Int) V).mono ?_;rintro e w' ⟨rfl,rfl⟩;obtain⟨V2,eV2⟩:=x_ ((V.alloc (.cells #[.pointer (some ⟨o.hb,0,none⟩)] 50)).alloc (.cells #[.int .i64 (j:Int)] 3))
 have hb2:Below V.heap.size V V2:=by rw[eV2];exact((Below.refl _ _).alloc (aL _) _).alloc (by simp) _
 have z2:V2.heap.size=W.heap.size+6:=by rw[eV2];simp[H1.out.2.1]
 have d1:V2.cell? ⟨V.heap.size,0,none⟩=some (.pointer (some ⟨o.hb,0,none⟩)):=by rw[eV2];exact((ay.new V [.pointer (some ⟨o.hb,0,none⟩)] 50).alloc _).ag 0 _ rfl
 have d2:V2.cell? ⟨V.heap.size+1,0,none⟩=some (.int .i64 (j:Int)):=by rw[eV2];exact(ay.made (l:= [.int .i64 (j:Int)]) (by simp) rfl).ag 0 _ rfl
 have hbW:Below W.heap.size W V2:=H1.out.1.trans (hb2.mono H1.out.1.size);have hI0:=H1.out.2.2.1.grow hb2;have ho2:iI (W.heap.size+1) V2=none:=by rw[gU (hb2.block _ (by have:=H1.out.2.1;omega))];exact H1.out.2.2.2
 have H2:=h_ (And.intro z2 (And.intro d1 (And.intro d2 (And.intro hbW (And.intro hI0 ho2)))));rw[<-eV2];clear eV2 hb2 z2 d1 d2 hbW hI0 ho2;go_wp2_with fail;refine Du (W.heap.size+1) V.heap.size (V.heap.size+1) (λk=>k=W.heap.size+1) o s j C EC.out rfl (by have:=H2.out.1;omega) (λk hk=>by have:=H2.out.1;omega) H2.out.2.2.2.2.2 H2.out.2.1 H2.out.2.2.1 (HH.out.below H2.out.2.2.2.1) HI.out.e HJ.out (HT.out.below H2.out.2.2.2.1 (aL _)) (xD W o.hb s) ?hI H2.out.2.2.2.2.1 (λpre W1 W2 h hb=>h.grow hb) (λpre W1 h=>by have:=h.size;omega) ?F ?assign ?body ?done
 case hI=>
  rintro pre w w' row hI hg hr;exact hI.own (by have:=H2.out.1;omega) hg hr
 case assign=>
  intro l pre x wr K hI hK;obtain⟨ab,eab⟩:=x_ wr.heap.size
  obtain⟨cs,ecs⟩:=x_ (aK x.1)
  rw[<-eab]at hK;have HK:=h_ hK;have EAB:=h_ eab;have ECS:=h_ ecs;have HCI:=h_ (cE cs (by rw[ecs];rfl));have HC1:Hid (∀u∈cs,u.oneCell'=true):=h_ (by rw[ecs];exact cm x.1);have HCL:Hid (cs.length=7):=h_ (by rw[ecs];rfl);rw[<-ecs];clear hK eab ecs hI
  gi_wp2_with (refine jU (.tmp 7) ?_;refine jt (.inr ⟨_,rfl⟩) HCI.out HC1.out 7 14 wr (wr.alloc (.cells cs.toArray 42)) wr.heap.size rfl rfl _ rfl rfl rfl rfl _ (by simp[HCL.out]) ?_;simp only[Pt])
  rw[<-EAB.out,ECS.out];exact HK.out
 case body=>
  intro l pre x ab wr hI hab hlen;have hok:=HCK.out x.1 x.2;have c4:=hab.ag 4 _ rfl;have hbW:=hI.below;have CP:=h_ (Bh x.1.body wr hok.2.2 (HT.out.below hbW (aL _)) (HE.out.below hbW (aL _)));have HI2:=h_ hI;have HAB:=h_ hab;have HLEN:=h_ hlen;clear hI hab hlen hok hbW
  gi_wp2
  refine⟨trivial,Free.dz ?_⟩;refine CP.out.mono ?_;rintro e w2 ⟨hb2,⟨y,hok,hbd,rfl⟩|⟨hno,rfl⟩⟩
  ·have hp:iL x.1.body=some y:=qX hok hbd;have hz2:=hb2.size;have hrz:=HI2.out.size;obtain⟨w3,e3⟩:=x_ (w2.alloc (.cells (bU y).toArray 29))
   have hbk3:ay w3 w2.heap.size (bU y) 29:=by rw[e3];exact ay.new w2 _ _
   have hb3:Below wr.heap.size wr w3:=by rw[e3];exact hb2.alloc hb2.size _
   have hI3:=HI2.out.grow hb3;have q0:=hI3.AN;have HMF:Hid (w3.rangeAt w2.heap.size 0 (bU y)):=h_ (rg_of hbk3);have HCI:=h_ (rK (bU y) rfl);have HC1:=h_ (lQ y);have HE3:=h_ e3;have CV:=h_ (vM o s y w3 (HH.out.below hI3.below));have HB3:=h_ hb3;have HBK:=h_ hbk3;have HP:=h_ hp;have HOK:=h_ hok;have HZ:=h_ (And.intro hz2 hrz);clear hp hz2 hrz hbk3 hb3 hI3 hok hbd hb2 e3
   gi_wp2_with (first
    |(refine jU (.tmp 8) ?_;refine jt (.inr ⟨_,rfl⟩) HCI.out HC1.out 8 19 w2 w3 w2.heap.size rfl HE3.out _ rfl rfl rfl rfl _ rfl ?_;simp only[Pt])
    |(refine lK (.tmp 8) ?_;refine yK (.inr ⟨_,rfl⟩) (Free.wq rfl) 29 (.tmp 8) rfl w2.heap.size 0 rfl (bU y) _ HMF.out Tryz.underlying29 rfl HCI.out ?_))
   refine⟨trivial,Free.dz ?_⟩;refine CV.out.mono ?_;rintro e w4 ⟨rfl,hb4⟩;have hb14:Below wr.heap.size wr w4:=HB3.out.trans (hb4.mono HB3.out.size);have hbk4:ay w4 w2.heap.size (bU y) 29:=HBK.out.below hb4 HBK.out.lt;have hab4:=HAB.out.below hb14 HAB.out.lt;have hI4:=HI2.out.grow hb14;have r0:=hI4.AN;have r1:=hI4.box;have r2:=hbk4.ag 0 _ rfl;have r3:=hbk4.ag 4 _ rfl;have r4:=hab4.ag 2 _ rfl;have HIF:Hid (xD W o.hb s pre w4):=h_ hI4;have HB4:=h_ hb14;have G0:Hid ((dE s y&&((y.cJ==x.1.day)&& !((cg s (cn pre)).any λz=>z.ref==y.ref)))=false->KeepsFrom V2.heap.size wr w4/\ku (λk=>k=W.heap.size+1) (W.heap.size+1) wr w4/\xD W o.hb s (pre++ [x]) w4):=
    h_ λhc=>⟨(gC hb14).from _,ku.below hb14 (by have:=HI2.out.size;omega),hI4.skip x (KT HP.out hc)⟩
   have HBK4:=h_ hbk4;clear hb4 hb14 hbk4 hab4 hI4;cases hv:dE s y with
   |false=>
    gi_wp2
    exact G0.out (by rw[hv];rfl)
   |true=>
    have hlk:(Instr.lookup 161 (.map (some (W.heap.size+2))) (.int .i64 y.ref) false).run Tryz.prog w4= .ok (.bool ((cg s (cn pre)).any λz=>z.ref==y.ref)) w4:=by have h:=HIF.out.mp.look Dg Tryz.underlying161 (KA w4) (Cz HOK.out) false;simp only[GA,B6]at h;rw[IH]at h;exact h
    cases hr:((cg s (cn pre)).any λz=>z.ref==y.ref)with
    |true=>
     rw[hr]at hlk
     gi_wp2
     ·exact G0.out (by simp[hv,hr])
     ·exact G0.out (by simp[hv, ‹¬y.cJ=x.1.day›])
    |false=>
     rw[hr]at hlk;by_cases hd:y.cJ=x.1.day;rotate_left
     ·gi_wp2
      exact G0.out (by simp[hv,hd])
     ·rw[hd]at r3;obtain⟨w5,hr5,z5,hk5,v,A,c,w6,d1,hr6,d2,f2,hI6,hkp,hkf⟩:=HI2.out.push (B:=V2.heap.size) x y HB4.out (by have:=H2.out.1;omega) HP.out (by simp[hv,hr,hd]) (by have:=HLEN.out;have:=HCF.out;omega);have hr5':(Instr.mapUpdate 161 (.map (some (W.heap.size+2))) (.int .i64 y.ref) (.bool true)).run Tryz.prog w4= .ok () w5:=hr5;have hbk5:ay w5 w2.heap.size (bU y) 29:=HBK4.out.bG (hk5 _ HBK4.out.lt (by have:=HZ.out.1;have:=HZ.out.2;omega));have HM5:Hid (w5.rangeAt w2.heap.size 0 (bU y)):=h_ (rg_of hbk5);obtain⟨iE,hi,hz0,hz1,hz2⟩:=AR;have HBS:Hid ((Instr.buildSlice 73 1 #[(0, .agg (bU y).toArray)]).run Tryz.prog w5= .ok (.slice (some ⟨w5.heap.size,0,none⟩) 1 1) (w5.alloc (.cells (bU y).toArray 29))):=h_ (Apk.fj (P:=Tryz.prog) w5 73 29 iE _ Tryz.underlying73 hi hz0 (bU y).toArray (by rw[tY,jW,hz1]) (by rw[hz1];decide) (by rw[hz1];decide));obtain⟨w5b,e5b⟩:=x_ (w5.alloc (.cells (bU y).toArray 29))
      rw[<-e5b]at HBS hr6;have HR6:=h_ hr6;have G6:Hid (KeepsFrom V2.heap.size wr (w6.setCell ⟨W.heap.size+1,0,none⟩ (.slice A ((cg s (cn pre)).length+1) c))/\ku (λk=>k=W.heap.size+1) (W.heap.size+1) wr (w6.setCell ⟨W.heap.size+1,0,none⟩ (.slice A ((cg s (cn pre)).length+1) c))/\xD W o.hb s (pre++ [x]) (w6.setCell ⟨W.heap.size+1,0,none⟩ (.slice A ((cg s (cn pre)).length+1) c))):=h_ ⟨hkf,hkp,hI6⟩;clear hr5 z5 hk5 hr6 hI6 hkp hkf hbk5 hi hz0 hz1 hz2 e5b hd
      gi_wp2_with (first
       |(refine lK (.tmp 8) ?_;refine kL (.inr ⟨_,rfl⟩) rfl 29 (.tmp 8) rfl w2.heap.size 0 rfl (bU y) _ HM5.out Tryz.underlying29 rfl HCI.out ?_)
       |(refine Hi (.tmp 46) ?_;refine iZ (.inr ⟨_,rfl⟩) rfl (by intro c hc;cases hc) (Apl.fB rfl HBS.out) ?_;simp only[Pt])
       |(gi_at_builtin;refine iZ (.inr ⟨_,rfl⟩) rfl (by intro c hc;cases hc) (Apl.dL rfl rfl rfl HR6.out) ?_;simp only[Pt]))
      exact G6.out
  ·obtain⟨cs,ecs⟩:∃cs:List Value,bK=cs.toArray:=⟨bK.toList,by simp⟩
   have hcl:cs.length=6:=by have h:bK.size=6:=rfl;rw[ecs]at h;simpa using h
   have hc1:∀u∈cs,u.oneCell'=true:=by
    have h:∀u∈bK.toList,u.oneCell'=true:=by simp[bK,Value.oneCell']
    rw[ecs]at h;simpa using h
   have hb3:Below wr.heap.size wr (w2.alloc (.cells cs.toArray 29)):=hb2.alloc hb2.size _;have hlt:W.heap.size+1<wr.heap.size:=by have:=HI2.out.size;omega
   have G:Hid (KeepsFrom V2.heap.size wr (w2.alloc (.cells cs.toArray 29))/\ku (λk=>k=W.heap.size+1) (W.heap.size+1) wr (w2.alloc (.cells cs.toArray 29))/\xD W o.hb s (pre++ [x]) (w2.alloc (.cells cs.toArray 29))):=
    h_ ⟨(gC hb3).from _,ku.below hb3 hlt,(HI2.out.grow hb3).skip x (Hc (qW hno))⟩
   have HCI:=h_ (rK cs hcl);have HCL:=h_ hcl;have HC1:=h_ hc1;clear hcl hc1 hb3 hlt hb2 hno;rw[ecs]
   gi_wp2_with (refine jU (.tmp 8) ?_;refine jt (.inr ⟨_,rfl⟩) HCI.out HC1.out 8 19 w2 (w2.alloc (.cells cs.toArray 29)) w2.heap.size rfl rfl _ rfl rfl rfl rfl _ (by simp[HCL.out]) ?_;simp only[Pt])
   refine⟨trivial, ?_⟩
   gi_wp2
   exact G.out
 case done=>
  rintro D xs w hD hv hI hK;obtain⟨⟨v,hk,hown⟩,_,_,_,hbl,hlt⟩:=hI;rw[hv]at hown;obtain⟨A,c,rfl,hc,hsl⟩:=gV jW hown;have c0:=hk.ag 0 _ rfl;have hDW:W.heap.size+4<D:=by have:=H2.out.1;omega
  have G:Hid (R (.returned (.slice A (cg s C).length c)) (w.putObj D (.deferred none))):=h_ (by
   rw[ER.out];refine⟨_,rfl,bC hown (λk e=>World.putObj_heap_other (λe3=> ?_)),pQ hbl (by omega)⟩;rcases hown.2 with⟨h,_⟩|⟨g,cap,cur,h,_,h4,_⟩
   ·rw[h]at e;cases e
   ·rw[h]at e;have e':g=k:=by injection e
    rw[e',e3,hK]at h4;cases h4)
  have HK:=h_ hK;clear hk hown hbl hlt hsl hc hD hv hK hDW;go_wp2_with fail;exact⟨by simp, .inl ⟨_,_,rfl,run_takeDeferred HK.out,⟨_,by simp[results,Tryz.results47,go_sem],G.out⟩⟩⟩
end Go.Proofs.YtkmbmfengcdmoaaGreatDoor
namespace Go.Jn
open Go Go.Dk
theorem Iu{d:DD}(h:d.on=true)(x y:Int):(d.fail x y).on=false/\(d.fail x y).aF= []:=by unfold DD.fail;rw[if_pos h];exact⟨rfl,rfl⟩
end Go.Jn
namespace Go.Proofs.YtkmbmfengcdmoaaGreatDoor
open Go.RowKit Go.ay Go.Jn Go.Dk Go.Mp Go.Rf Go.Shelf Go.Apl Go.Opn

section
variable {we w w':World} {jb b bs bm n:Nat} {pv rv:Value} {s:JS} {d:DD}
theorem PJ.ly{v:Value}{e:Ending}(h:PJ we w jb b bs bm n pv rv s)(p:eM w b bs bm n pv d v e w'):
  e= .returned v/\∃bm' pv',PJ we w' jb b bs bm' n pv' rv {s with d:=d}/\aJ (pD jb b bs bm pv rv) w w'/\(∀k,pD jb b bs bm' pv' rv k->pD jb b bs bm pv rv k\/w.heap.size<=k):=by
 obtain⟨h1,bm',pv',hd,hk,hb,hv⟩:=p;have hs:=h.e.bl.size;have hf:∀k,pD jb b bs bm' pv' rv k->pD jb b bs bm pv rv k\/w.heap.size<=k:=by
  rintro k (rfl|e|rfl|rfl|rfl|e)
  ·exact .inl (.inl rfl)
  ·exact .inl (.inr (.inl e))
  ·exact .inl (.inr (.inr (.inl rfl)))
  ·exact .inl (.inr (.inr (.inr (.inl rfl))))
  ·rcases hb with rfl|hb
   ·exact .inl (.inr (.inr (.inr (.inr (.inl rfl)))))
   ·exact .inr hb
  ·exact(hv k e).imp (λh=> .inr (.inr (.inr (.inr (.inr h))))) id
 have hf2:∀k,pD jb b bs bm' pv' rv k->we.heap.size<=k:=λk hk=>(hf k hk).elim (λh'=>h.fp h') (λh'=>by omega)
 refine⟨h1,bm',pv',⟨⟨h.j.n4,hd, ?_, ?_,h.j.num,h.j.hf,h.j.len,h.j.at_⟩,⟨h.e.t,h.e.bl.trans (hk.below (λk hk=>h.e.f k hk) hs),λk hk=>hf2 k (.inr (.inr hk))⟩,h.jb,h.rv⟩,hk.mono (λk _ f=> .inr (.inr f)),hf⟩
 ·exact h.j.bg.bG (hk.block jb h.j.bg.lt (jG h.j.ly h.j.bg (by decide) (by decide) (by decide)))
 ·exact h.j.row.bD (λk e=>hk.block k (World.ownsRow.lt h.j.row k e).2 (qp h.j.ly h.j.row (by decide) (by decide) (by decide) e))
theorem Ie(h:aI w b bs bm pv d n):Calls Tryz.prog 25 #[.pointer (some ⟨b,0,none⟩)] w (eM w b bs bm n pv d.start (.tuple #[])):=
 (Gn h).mono λ_ _ p=>⟨p.1,bm,pv,p.2.1,p.2.2, .inl rfl,λ_ h=> .inl h⟩
theorem OA(h:aI w b bs bm pv d n)(x y z:Int)(hx0: -9223372036854775808<=x)(hx1:x<=9223372036854775807)(hy0: -9223372036854775808<=y)(hy1:y<=9223372036854775807)(hz0: -9223372036854775808<=z)(hz1:z<=9223372036854775807):
  Calls Tryz.prog 21 #[.pointer (some ⟨b,0,none⟩), .int .i64 x, .int .i64 y, .int .i64 z] w (eM w b bs bm n pv (d.arm x y z) (.tuple #[])):=
 (K5 h x y z hx0 hx1 hy0 hy1 hz0 hz1).mono λ_ _ p=>⟨p.1,bm,pv,p.2.1,p.2.2, .inl rfl,λ_ h=> .inl h⟩
end
end Go.Proofs.YtkmbmfengcdmoaaGreatDoor
namespace Go.Proofs.YtkmbmfengcdmoaaGreatDoor
open Go.RowKit Go.ay Go.Jn Go.Dk Go.Ho Go.Opn Go.Maps Go.WideMaps Go.Apl Go.Mg Go.Rf Go.Lib
structure Pl where
 o:Lo
 b:Nat
 bs:Nat
 bm:Nat
 pv:Value
 rv:Value
abbrev Pl.J (p:Pl):Nat->Prop:=pD p.o.jb p.b p.bs p.bm p.pv p.rv
def Pl.H(p:Pl)(k:Nat):Prop:=k=p.o.hb\/k=p.o.mb\/p.o.A.map (·.block)=some k
def Pl.F(p:Pl)(k:Nat):Prop:=p.H k\/p.J k
structure HC (we w:World) (n:Nat) (p:Pl) (s:HS):Prop where
 hr:HR w p.o s
 pj:PJ we w p.o.jb p.b p.bs p.bm n p.pv p.rv s.js
 tX:∀k,p.H k->we.heap.size<=k
 off:∀k,p.H k-> ¬p.J k
 am:∀k,p.o.A.map (·.block)=some k->k≠p.o.hb/\k≠p.o.mb/\k<w.heap.size
section
variable {we w w':World} {n:Nat} {p:Pl} {s:HS} {F:Nat->Prop}
theorem HC.lt(h:HC we w n p s){k:Nat}(hk:p.F k):k<w.heap.size:=by
 rcases hk with(rfl|rfl|hk)|hk
 ·exact h.hr.bg.lt
 ·exact h.hr.mp.lt
 ·exact(h.am k hk).2.2
 ·exact h.pj.j.lt hk
theorem HC.ju(h:HC we w n p s){k:Nat}(hk:p.F k):we.heap.size<=k:=by
 rcases hk with hk|hk
 ·exact h.tX k hk
 ·exact h.pj.fp hk
theorem HR.Nw{o:Lo}(h:HR w o s)(hk:∀k,(k=o.hb\/k=o.mb\/o.A.map (·.block)=some k)->w'.heap[k]? =w.heap[k]?):HR w' o s:=
 ⟨h.bg.bG (hk _ (.inl rfl)),h.mp.bD (hk _ (.inr (.inl rfl))),jw h.pubs (λk e=>hk k (.inr (.inr e)))⟩
theorem HC.bD(h:HC we w n p s)(hk:aJ F w w')(hF:∀k,p.F k-> ¬F k)(hB:∀k,F k->we.heap.size<=k):HC we w' n p s:=
 ⟨h.hr.Nw (λk hH=>hk.block k (h.lt (.inl hH)) (hF k (.inl hH))),h.pj.bD hk (λk hJ=>hF k (.inr hJ)) hB,h.tX,h.off,λk e=>⟨(h.am k e).1,(h.am k e).2.1,nX (h.am k e).2.2 hk.size⟩⟩
theorem HC.grow(h:HC we w n p s)(hb:Below w.heap.size w w'):HC we w' n p s:=h.bD (F:=λ_=>False) (aJ.aY hb) (λ_ _ f=>f) (λ_ f=>f.elim)
end
def bS(we w:World)(n:Nat)(p:Pl)(s':HS)(v:Value)(e:Ending)(w':World):Prop:=
 e= .returned v/\∃p':Pl,p'.o=p.o/\p'.b=p.b/\p'.bs=p.bs/\HC we w' n p' s'/\aJ p.F w w'/\(∀k,p'.F k->p.F k\/w.heap.size<=k)
theorem bS.same{we w w':World}{n:Nat}{p:Pl}{s:HS}(h:HC we w n p s)(hb:Below w.heap.size w w')(v:Value):bS we w n p s v (.returned v) w':=
 ⟨rfl,p,rfl,rfl,rfl,h.grow hb,aJ.aY hb,λ_ h=> .inl h⟩
theorem bS.after{we w w1 w':World}{n:Nat}{p:Pl}{s':HS}{v:Value}{e:Ending}(hb:Below w.heap.size w w1)(h:bS we w1 n p s' v e w'):bS we w n p s' v e w':=by obtain⟨h0,p',h1,h2,h3,h4,h5,h6⟩:=h;exact⟨h0,p',h1,h2,h3,h4,(aJ.aY hb).trans h5 (λ_ _ f=>f),λk hk=>(h6 k hk).imp id (λh=>fO hb.size h)⟩
section
variable {we w w':World} {n:Nat} {p:Pl} {s:HS}
theorem HC.ne(h:HC we w n p s):p.o.hb≠p.o.mb:=λe=>by
 obtain⟨es,c,hm,_⟩:=h.hr.mp;rw[<-e,show w.heap[p.o.hb]? =_ from h.hr.bg]at hm;cases hm
theorem HC.NK{bm':Nat}{pv' rv':Value}{j':JS}(h:HC we w n p s)(hp:PJ we w' p.o.jb p.b p.bs bm' n pv' rv' j')(hk:aJ p.J w w')(hf:∀k,pD p.o.jb p.b p.bs bm' pv' rv' k->p.J k\/w.heap.size<=k):
  HC we w' n {p with bm:=bm',pv:=pv',rv:=rv'} {s with js:=j'}:=
 have h0:=h.hr.Nw (λk hH=>hk.block k (h.lt (.inl hH)) (h.off k hH))
 ⟨⟨h0.bg,h0.mp,h0.pubs⟩,hp,h.tX,λk hH hJ=>by
  rcases hf k hJ with hJ|hJ
  ·exact h.off k hH hJ
  ·exact absurd (h.lt (.inl hH)) (by omega),λk e=>⟨(h.am k e).1,(h.am k e).2.1,nX (h.am k e).2.2 hk.size⟩⟩
theorem HC.DK{ents':dv}(h:HC we w n p s)(hm:Mk.bL w' Value.string qw fv p.o.mb ents')(hk:aJ (λk=>k=p.o.mb) w w'):HC we w' n p {s with aw:=ents'}:=
 ⟨⟨h.hr.bg.bG (hk.block _ h.hr.bg.lt h.ne),hm,jw h.hr.pubs (λk e=>hk.block k (h.am k e).2.2 (h.am k e).2.1)⟩,
  h.pj.bD hk (λk hJ e=>h.off k (.inr (.inl e)) hJ) (λk e=>h.tX k (.inr (.inl e))),h.tX,h.off,λk e=>⟨(h.am k e).1,(h.am k e).2.1,nX (h.am k e).2.2 hk.size⟩⟩
theorem HC.RL(h:HC we w n p s):HC we (w.setCell ⟨p.o.hb,7,none⟩ (.bool false)) n p {s with run:=false}:=by
 have hk:aJ (λk=>k=p.o.hb) w (w.setCell ⟨p.o.hb,7,none⟩ (.bool false)):=(aJ.refl (λk=>k=p.o.hb) w).setCell (p:=⟨p.o.hb,7,none⟩) (λ_=>rfl) _;exact⟨⟨h.hr.bg.set 7 (.bool false),h.hr.mp.bD (hk.block _ h.hr.mp.lt h.ne.symm),jw h.hr.pubs (λk e=>hk.block k (h.am k e).2.2 (h.am k e).1)⟩,
  h.pj.bD hk (λk hJ e=>h.off k (.inl e) hJ) (λk e=>h.tX k (.inl e)),h.tX,h.off,λk e=>⟨(h.am k e).1,(h.am k e).2.1,nX (h.am k e).2.2 hk.size⟩⟩
end
def HS.store(n:Nat)(s:HS)(e:aV)(text:ByteArray):HS×Int:=
 if(s.js.append n text.data.toList).2=0 then({s with js:=(s.js.append n text.data.toList).1,aw:=Mk.put s.aw text e},0)
 else if(s.js.append n text.data.toList).2=19 then({s with js:=(s.js.append n text.data.toList).1},19)
 else({s with js:=(s.js.append n text.data.toList).1,run:=false},21)
set_option maxHeartbeats 2000000 in
theorem sO{we w:World}{n:Nat}{p:Pl}{s:HS}(e0:aV)(text:ByteArray)(h:HC we w n p s)(ht:text.size<=1000000000)(hpend:s.js.d.aF.length<=900000)(hrec:s.js.bW.length<=1000000):
  Calls Tryz.prog 52 #[.pointer (some ⟨p.o.hb,0,none⟩), .agg (aK e0).toArray, .string text] w (bS we w n p (s.store n e0 text).1 (.int .i64 (s.store n e0 text).2)):=by
 obtain⟨R,eR⟩:=x_ (bS we w n p (s.store n e0 text).1 (.int .i64 (s.store n e0 text).2))
 rw[<-eR];have ER:=h_ eR;obtain⟨cs,ecs⟩:=x_ (aK e0)
 have hcl:cs.length=7:=by rw[ecs];rfl
 obtain⟨V,eV⟩:=x_ (w.alloc (.cells cs.toArray 42))
 have hbk:ay V w.heap.size cs 42:=by rw[eV];exact ay.new w cs 42
 have hbV:Below w.heap.size w V:=by rw[eV];exact(Below.refl _ _).alloc (aL _) _
 have hV:=h.grow hbV;have AP:=h_ (Ab text hV.pj.j hpend hrec (by omega) hV.pj.e);have EV:Hid (w.alloc (.cells cs.toArray 42)=V):=h_ eV.symm;have HH:=h_ h;have HV:=h_ hV;have HBK:=h_ hbk;have HBV:=h_ hbV;have HI:=h_ (cE cs hcl);have ECS:=h_ ecs;have HTX:Hid (qw text):=h_ (by unfold qw maxLen;omega);have c6:=hV.hr.bg.ag 6 _ rfl;have SZ:Hid (V.heap.size=w.heap.size+1):=h_ (by rw[eV];simp);rw[<-ecs];clear eR ecs hcl eV hbk hbV hV h hpend hrec ht;go_enter Tryz.func52,Tryz.ntmps52;go_wp2_with (simp only[EV.out])
 refine AP.out.mono ?_;intro e w2 hj;obtain⟨r,er⟩:=x_ (s.js.append n text.data.toList)
 rw[<-er]at hj;obtain⟨js',c⟩:=r;obtain⟨rfl,bm',pv',rv',hp,hk,hf⟩:=HV.out.pj.next hj;have h2:=HV.out.NK hp hk hf;have hst:s.store n e0 text=if c=0 then({s with js:=js',aw:=Mk.put s.aw text e0},0)else if c=19 then({s with js:=js'},19)else({s with js:=js',run:=false},21):=by unfold HS.store;rw[<-er]
 have hbk2:ay w2 w.heap.size cs 42:=HBK.out.bG (hk.block _ HBK.out.lt (λe=>by have:=HH.out.pj.j.lt e;omega));have hz2:=hk.size;have KEY:∀(w3:World) (s':HS),HC we w3 n {p with bm:=bm',pv:=pv',rv:=rv'} s'->aJ p.F w2 w3->bS we w n p s' (.int .i64 (s.store n e0 text).2) (.returned (.int .i64 (s.store n e0 text).2)) w3:=λw3 s' h3 k3=>
  ⟨rfl,{p with bm:=bm',pv:=pv',rv:=rv'},rfl,rfl,rfl,h3,((aJ.aY HBV.out).trans (hk.mono (λ_ _ f=> .inr f)) (λ_ _ f=>f)).trans k3 (λ_ _ f=>f),λk hk'=>by
   rcases hk' with hH|hJ
   ·exact .inl (.inl hH)
   ·rcases hf k hJ with h|h
    ·exact .inl (.inr h)
    ·have:=SZ.out;exact .inr (by omega)⟩
 have KEY:=h_ KEY;have H2:=h_ h2;have HST:=h_ hst;have HBK2:=h_ hbk2;have c8:=h2.hr.bg.ag 8 _ rfl;have f7:=h2.hr.bg.frozen 7;have c7:=h2.hr.bg.ag 7 _ rfl;dsimp only at c8 c7;clear hj er hp hk hf h2 hst hbk2 hz2 AP c6;by_cases hc0:c=0
 ·subst hc0;have HQ:Hid (∀w',Below w2.heap.size w2 w'->w'.cell? ⟨p.o.hb,8,none⟩=some (.map (some p.o.mb))):=h_ λw' h=>aO c8 h
  have HM:Hid (∀w',Below w2.heap.size w2 w'->w'.rangeAt w.heap.size 0 cs):=h_ λw' h=>rg_of (HBK2.out.below h HBK2.out.lt)
  go_wp2_with fail;refine Free.ai 6 [] (λy=>Below w2.heap.size w2 y) (by kernel_rfl) (by kernel_rfl) (Free.aW (λj mk r hf=>by cases hf)) (Below.refl _ _).drew (λ_ _ h g=>h.trans (Below.mono g h.size)) ?_;simp only[eJ,dT];iterate 5 (apply Free.ae (Free.wq rfl) rfl;(intro w' hB hA;have q8:=HQ.out w' hB;clear hA hB;go_light;go_simp<;>rfl);(try simp only[Pt]))
  apply Free.ae (Free.wq rfl) rfl
  ·intro w' hB hA;exact Hk.aU 42 (.tmp 4) rfl w.heap.size 0 rfl cs _ (HM.out w' hB) Tryz.underlying42 rfl HI.out
  simp only[Pt];apply Free.ax;intro wz hz _ _;simp only[fm,fo];obtain⟨w3,hr3,hm3,hg3,z3⟩:=(H2.out.grow hz).hr.mp.store kH Tryz.underlying102 HTX.out e0;have k3:aJ (λk=>k=p.o.mb) wz w3:=(aJ.refl (λk=>k=p.o.mb) wz).grown hg3 (λk e _=>by injection e with e;exact e.symm);have G:Hid (R (.returned (.int .i64 0)) w3):=h_ (by
   have:=KEY.out w3 _ ((H2.out.grow hz).DK hm3 k3) ((aJ.aY hz).trans (k3.mono (λ_ _ e=> .inl (.inr (.inl e)))) (λ_ _ f=>f));rw[HST.out]at this;rw[ER.out,HST.out];exact this)
  have hr4:(Instr.mapUpdate 102 (.map (some p.o.mb)) (.string text) (.agg cs.toArray)).run Tryz.prog wz= .ok () w3:=by rw[ECS.out];exact hr3
  clear KEY k3 hg3 z3 hm3 hr3 hz;go_wp2_with fail;(try go_ret);exact G.out
 ·by_cases hc19:c=19
  ·subst hc19;have G:Hid (R (.returned (.int .i64 19)) w2):=h_ (by
    have:=KEY.out w2 _ H2.out (aJ.refl _ _);rw[HST.out]at this;rw[ER.out,HST.out];exact this)
   clear KEY;go_wp2_with fail;(try go_ret);exact G.out
  ·have G:Hid (R (.returned (.int .i64 21)) (w2.setCell ⟨p.o.hb,7,none⟩ (.bool false))):=h_ (by
    have:=KEY.out _ _ H2.out.RL ((aJ.refl _ _).setCell (p:=⟨p.o.hb,7,none⟩) (λ_=> .inl (.inl rfl)) _);rw[HST.out,if_neg hc0,if_neg hc19]at this;rw[ER.out,HST.out,if_neg hc0,if_neg hc19];exact this)
   clear KEY;go_wp2_with fail;(try go_ret);exact G.out
end Go.Proofs.YtkmbmfengcdmoaaGreatDoor
