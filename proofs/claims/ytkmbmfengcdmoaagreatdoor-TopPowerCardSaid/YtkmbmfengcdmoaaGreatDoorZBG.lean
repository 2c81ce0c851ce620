/- Package house: a house with its journal and disk; store. Condition: the variable of strconv holds its numbers. -/
import Derived.Test.YtkmbmfengcdmoaaGreatDoorZBF
import Derived.Test.YtkmbmfengcdmoaaGreatDoorZBA
import Derived.Test.YtkmbmfengcdmoaaGreatDoorZAS
set_option maxRecDepth 100000
set_option linter.all false
namespace Go.Proofs.YtkmbmfengcdmoaaGreatDoor
open Go.RowKit Go.ay Go.Jn Go.Dk Go.Ho Go.Opn Go.Maps Go.WideMaps Go.Apl Go.Mg Go.Rf Go.Lib
attribute [local go_sem] Oper.semAt_some

open Classical in
noncomputable def iL (t:ByteArray):Option ei:=if h:∃x:ei,x.Ok/\iT x=t then some (Classical.choose h)else none
theorem qX{t:ByteArray}{x:ei}(h:x.Ok)(e:iT x=t):iL t=some x:=by
 have c:∃x:ei,x.Ok/\iT x=t:=⟨x,h,e⟩
 unfold iL;rw[dif_pos c];have a:=P9 c;rw[La a.1 h (a.2.trans e.symm)]
theorem qW{t:ByteArray}(h:∀x:ei,x.Ok->iT x≠t):iL t=none:=by unfold iL;rw[dif_neg (λ⟨x,a,c⟩=>h x a c)]
theorem FC{t:ByteArray}{x:ei}(h:iL t=some x):x.Ok/\iT x=t:=by
 unfold iL at h;split at h
 ·rename_i a;cases h
  exact P9 a
 ·cases h
noncomputable def kx (s:HS) (F:List ei) (e:aV):List ei:=match iL e.body with
 |none=>F
 |some x=>if dE s x&&((x.cJ==e.day)&& !(F.any λy=>y.ref==x.ref))then F++ [x]else F
noncomputable def cg (s:HS) (C:List aV):List ei:=C.foldl (kx s) []
noncomputable def dP (s:HS) (house:Int):List ei:=cg s (bE s house)
theorem im(s:HS)(C:List aV)(e:aV):cg s (C++ [e])=kx s (cg s C) e:=by unfold cg;rw[PA];rfl
theorem He(s:HS)(F:List ei)(e:aV):(kx s F e).length<=F.length+1:=by
 unfold kx;split
 ·omega
 ·split<;>simp
theorem uV(s:HS):∀(C:List aV) (F:List ei),(C.foldl (kx s) F).length<=F.length+C.length
 | [],F=>aL _
 |e::C,F=>by
  have a:=uV s C (kx s F e);have c:=He s F e;rw[RY,kq];omega
theorem nD(s:HS)(C:List aV):(cg s C).length<=C.length:=by have:=uV s C [];unfold cg;simpa using this
def nV(n:Int):Value:= .int .i64 n
def PM(n:Int):Prop:= -9223372036854775808<=n/\n<=9223372036854775807
theorem Dg:Mk.Key Tryz.prog 3 nV PM:=
 ⟨int_keyed Tryz.underlying3,λx a=>⟨_,keyOf_int_mk Tryz.underlying3 (by unfold PM at a;exact WalkArith.wf_i64 (by omega))⟩,λx y _ _ h=>by injection h⟩
def bV(b:Bool):Value:= .bool b
def tE(F:List ei):List (Int×Bool):=F.map λx=>(x.ref,true)
theorem IH(F:List ei)(r:Int):((Mk.get (tE F) r).map bV).getD (.bool false)= .bool (F.any λy=>y.ref==r):=by
 unfold tE;induction F with
 |nil=>rfl
 |cons x F ih=>
  rw[xJ,Mk.get,List.any_cons];by_cases h:x.ref=r
  ·simp only[h,if_pos,beq_self_eq_true,Bool.true_or];rfl
  ·rw[if_neg h,ih,show(x.ref==r)=false by simpa using h,Bool.false_or]
theorem JK{F:List ei}{x:ei}(h:(F.any λy=>y.ref==x.ref)=false):Mk.put (tE F) x.ref true=tE (F++ [x]):=by
 unfold tE;rw[Mk.mf,uE];rfl;intro p a e;obtain⟨y,c,rfl⟩:=nS.1 a
 have:=List.any_eq_false.1 h y c;simp at this;exact this e
theorem AR:∃i,Tryz.prog.info? 29=some i/\i.zero=some (.agg bK)/\i.size=6/\i.bytes=48:=by
 have h:(Tryz.prog.info? 29).map (λi=>(i.zero,i.size,i.bytes))=some (some (.agg bK),6,48):=by kernel_rfl
 cases hi:Tryz.prog.info? 29 with
 |none=>rw[hi]at h;cases h
 |some i=>rw[hi]at h;simp only[GK,NS,NO]at h;exact⟨i,rfl,h.1,h.2.1,h.2.2⟩
theorem jW(x:ei):(bU x).length=6:=rfl
theorem lQ(x:ei):∀u∈bU x,u.oneCell'=true:=by
 intro u a;simp only[bU,lC,DR,DW]at a;rcases a with rfl|rfl|rfl|rfl|rfl|rfl<;>rfl
structure xD (W:World) (hb:Nat) (s:HS) {C:List aV} (pre:List (jR C)) (w:World):Prop where
 ex:∃v,ay w (W.heap.size+1) [v] 73/\w.ownsRow (W.heap.size+4) 29 6 v (cg s (cn pre)).length ((cg s (cn pre)).flatMap bU)
 mp:Mk.bL w nV PM bV (W.heap.size+2) (tE (cg s (cn pre)))
 box:w.cell? ⟨W.heap.size+3,0,none⟩=some (.map (some (W.heap.size+2)))
 AN:w.cell? ⟨W.heap.size,0,none⟩=some (.pointer (some ⟨hb,0,none⟩))
 below:Below W.heap.size W w
 size:W.heap.size+4<=w.heap.size
section
variable {W w w':World} {hb:Nat} {s:HS} {C:List aV} {pre:List (jR C)}
theorem xD.grow(h:xD W hb s pre w)(a:Below w.heap.size w w'):xD W hb s pre w':=by obtain⟨⟨v,c,f⟩,g,i,j,l,m⟩:=h;exact⟨⟨v,c.below a c.lt,bC f (λk e=>a.block k (World.ownsRow.lt f k e).2)⟩,g.bD (a.block _ g.lt),by rw[a.cell (World.block_lt_of_cell? w _ i)];exact i,by rw[a.cell (World.block_lt_of_cell? w _ j)];exact j,l.trans (a.mono l.size),fO m a.size⟩
theorem xD.own{B:Nat}{row:Option Nat}(h:xD W hb s pre w)(G:W.heap.size+4<=B)(c:w.grownBy w' row)(j:∀r,row=some r->B<=r/\∃o:Obj,w.heap[r]? =some o/\o.isCells=false):xD W hb s pre w':=by
 obtain⟨⟨v,l,f⟩,m,i,z,A,D⟩:=h;have a:∀k,k<B->some k≠row:=λk H e=>by have:=(j _ e.symm).1;omega
 refine⟨⟨v,l.bG (c.block _ l.lt (a _ (by omega))),bC f (λk e=>c.block k (World.ownsRow.lt f k e).2 (λy=> ?_))⟩,m.bD (c.block _ m.lt (a _ (by omega))),sK i c (a _ (show W.heap.size+3<B by omega)),sK z c (a _ (show W.heap.size<B by omega)),kz A (by omega) c (λr e=>by have:=(j r e).1;omega),fO D c.size⟩;obtain⟨_,o,q,E⟩:=j _ y.symm;rcases f.2 with⟨h,_⟩|⟨g,t,u,h,_,i,_⟩
 ·rw[h]at e;cases e
 ·rw[h]at e;have x:g=k:=by injection e
  rw[<-x,i]at q;cases q;cases E
theorem xD.skip(h:xD W hb s pre w)(x:jR C)(a:kx s (cg s (cn pre)) x.1=cg s (cn pre)):xD W hb s (pre++ [x]) w:=by
 obtain⟨c,e,f,g,i,j⟩:=h;refine⟨?_, ?_,f,g,i,j⟩
 ·rw[ie,im,a];exact c
 ·rw[ie,im,a];exact e
end
theorem Bh(t:ByteArray)(w:World)(e:t.size<=1000000000)(c:cB w)(a:gK w):Calls Tryz.prog 81 #[.string t] w (pK t w):=by
 have h:=FD t.data.toList w (by
   have:t.data.toList.length=t.size:=by simp
   omega) c a
 simpa using h
theorem rK(cs:List Value)(h:cs.length=6):(Tryz.prog.info? 29).map (·.size)=some cs.length:=by obtain⟨i,a,_,c,_⟩:=AR;rw[a,h];simp[c]
theorem Cz{y:ei}(h:y.Ok):PM y.ref:=by exact⟨h.r0,h.r1⟩
theorem xP{s:HS}{F:List ei}{e:aV}{y:ei}(h:iL e.body=some y)(a:(dE s y&&((y.cJ==e.day)&& !(F.any λz=>z.ref==y.ref)))=true):kx s F e=F++ [y]:=by unfold kx;rw[h];simp only[a,uf]
theorem KT{s:HS}{F:List ei}{e:aV}{y:ei}(h:iL e.body=some y)(a:(dE s y&&((y.cJ==e.day)&& !(F.any λz=>z.ref==y.ref)))=false):kx s F e=F:=by unfold kx;rw[h];simp[a]
theorem Hc{s:HS}{F:List ei}{e:aV}(h:iL e.body=none):kx s F e=F:=by unfold kx;rw[h]
theorem xD.push{W wr I:World}{hb B:Nat}{s:HS}{C:List aV}{pre:List (jR C)}(x:jR C)(y:ei)(h:xD W hb s pre wr)(r:Below wr.heap.size wr I)(hB:W.heap.size+4<=B)(hp:iL x.1.body=some y)
  (X:(dE s y&&((y.cJ==x.1.day)&& !((cg s (cn pre)).any λz=>z.ref==y.ref)))=true) (gc:pre.length+1<=1000000):
  ∃m,(Instr.mapUpdate 161 (.map (some (W.heap.size+2))) (nV y.ref) (bV true)).run Tryz.prog I= .ok () m/\m.heap.size=I.heap.size/\(∀k,k<I.heap.size->k≠W.heap.size+2->m.heap[k]? =I.heap[k]?)/\
  ∃v A c t,m.cell? ⟨W.heap.size+1,0,none⟩=some v/\(Builtin.append_ #[73,73] 73 #[v, .slice (some ⟨m.heap.size,0,none⟩) 1 1]).run Tryz.prog (m.alloc (.cells (bU y).toArray 29))= .ok (.slice A ((cg s (cn pre)).length+1) c) t/\
  t.cell? ⟨W.heap.size+1,0,none⟩=some v/\t.frozen? ⟨W.heap.size+1,0,none⟩=false/\xD W hb s (pre++ [x]) (t.setCell ⟨W.heap.size+1,0,none⟩ (.slice A ((cg s (cn pre)).length+1) c))/\
  ku (λk=>k=W.heap.size+1) (W.heap.size+1) wr (t.setCell ⟨W.heap.size+1,0,none⟩ (.slice A ((cg s (cn pre)).length+1) c))/\KeepsFrom B wr (t.setCell ⟨W.heap.size+1,0,none⟩ (.slice A ((cg s (cn pre)).length+1) c)):=by
 have g7:=r.size;have h5:=h.size;have AN:=h.AN;have L:=h.box;obtain⟨⟨v,D,q⟩,T,_,_,an,_⟩:=h.grow r;obtain⟨m,d6,M,E,z2⟩:=T.store Dg Tryz.underlying161 (Cz (FC hp).1) true;have Z:((cg s (cn pre)).any λz=>z.ref==y.ref)=false:=by
  cases hq:((cg s (cn pre)).any λz=>z.ref==y.ref)with
  |false=>rfl
  |true=>rw[hq]at X;simp at X
 rw[JK Z]at M;have l:∀k,k<I.heap.size->k≠W.heap.size+2->m.heap[k]? =I.heap[k]? :=λk D dl=>E.block k D (λe=>dl (by injection e))
 have G:ay m (W.heap.size+1) [v] 73:=D.bG (l _ D.lt (by omega));have g:=bC q (λk e=>l k (World.ownsRow.lt q k e).2 (by have:=(World.ownsRow.lt q k e).1;omega));obtain⟨iE,hi,f8,f9,ci⟩:=AR;obtain⟨w3,Y⟩:=x_ (m.alloc (.cells (bU y).toArray 29))
 have i:Below m.heap.size m w3:=by rw[Y];exact(Below.refl _ _).alloc (aL _) _
 have O:=bC g (λk e=>i.block k (World.ownsRow.lt g k e).2);have d8:SL w3 6 bU (some ⟨m.heap.size,0,none⟩) [y]:=by rw[Y];exact cO jW (ay.new m (bU y) 29) (λj u hu=>by simpa using hu)
 have gt:(cg s (cn pre)).length+1<=1000000:=by have:=nD s (cn pre);rw[mR]at this;omega
 have g8:=i.size;obtain⟨v2,t,d7,K,f,d9⟩:=nt (P:=Tryz.prog) w3 (W.heap.size+4) 73 73 29 iE _ 48 Tryz.underlying73 hi f8 f9 ci rfl (by decide) jW lQ v (cg s (cn pre)).length _ O (some ⟨m.heap.size,0,none⟩) 1 [y] d8 (by simp only[DT];unfold maxLen;omega) (by simp only[DT];omega) (by omega);rw[DT]at K;obtain⟨V,c4,rfl⟩:=fG K;have R:=G.below i G.lt;have H:∀k,k<W.heap.size+4->some k≠v.ownBlock:=λk D e=>by have:=(World.ownsRow.lt q _ e.symm).1;omega
 have N:ay t (W.heap.size+1) [v] 73:=R.bG (f.block _ R.lt (H _ (by omega)));have S:=N.set 0 (.slice V ((cg s (cn pre)).length+1) c4);have U:=bC (w':=t.setCell ⟨W.heap.size+1,0,none⟩ (.slice V ((cg s (cn pre)).length+1) c4)) K (λk e=>Below.heap_setCell _ _ _ _ (by have:=(World.ownsRow.lt K k e).1;show k≠W.heap.size+1;omega));have co:=ku.app G g i f d9 rfl S U;have ge:=f.size;have Q:∀k,k<I.heap.size->k≠W.heap.size+2->k≠W.heap.size+1->some k≠v.ownBlock->(t.setCell ⟨W.heap.size+1,0,none⟩ (.slice V ((cg s (cn pre)).length+1) c4)).heap[k]? =I.heap[k]? :=λk D h1 h2 h3=>by
  rw[Below.heap_setCell _ _ _ _ (by exact h2),f.block k (by omega) h3,i.block k (by omega),l k D h1]
 have zC:∀(v:Value),(t.setCell ⟨W.heap.size+1,0,none⟩ v).heap.size=t.heap.size:=λv=>by simp
 refine⟨m,d6,z2,l,v,V,c4,t,G.ag 0 _ rfl,by rw[<-Y];exact d7,N.ag 0 _ rfl,N.frozen 0,⟨⟨_,S, ?_⟩, ?_, ?_, ?_, ?_,by rw[zC];omega⟩, ?_, ?_⟩
 ·rw[ie,im,xP hp X,fu,DU];exact U
 ·rw[ie,im,xP hp X];refine M.bD ?_;rw[Below.heap_setCell _ _ _ _ (by show W.heap.size+2≠W.heap.size+1;omega),f.block _ (by omega) (H _ (by omega)),i.block _ (by omega)]
 ·rw[World.cell?_of_block (a:=⟨W.heap.size+3,0,none⟩) (Q _ (show W.heap.size+3<I.heap.size by omega) (by show W.heap.size+3≠_;omega) (by show W.heap.size+3≠_;omega) (H _ (by show W.heap.size+3<_;omega))),r.cell (World.block_lt_of_cell? wr _ L)];exact L
 ·rw[World.cell?_of_block (a:=⟨W.heap.size,0,none⟩) (Q _ (show W.heap.size<I.heap.size by omega) (by show W.heap.size≠_;omega) (by show W.heap.size≠_;omega) (H _ (by show W.heap.size<_;omega))),r.cell (World.block_lt_of_cell? wr _ AN)];exact AN
 ·exact(((an.trans ⟨E.os,E.tape,E.output,E.size,λk D=>l k (by omega) (by omega)⟩).trans (i.mono (by omega))).trans ⟨f.os,f.tape,f.output,f.size,λk D=>f.block k (by omega) (H _ (by omega))⟩).trans (di (a:=⟨W.heap.size+1,0,none⟩) (by show W.heap.size<=W.heap.size+1;omega) _)
 ·refine(ku.below r (by omega)).trans (ku.trans ⟨by omega,λk D J _ _=>l k D (λe=> ?_), .inl (gU (l _ (by omega) (by omega)))⟩ co);obtain⟨cc,ct,cf,J⟩:=J;obtain⟨es,c,bi,_⟩:=T;rw[e,bi]at J;cases J
 ·refine((gC r).from B).trans (KeepsFrom.trans ⟨by omega,λk o D ho _=> ?_⟩ (u6 G g i f _));rw[l k (iS.1 ho).1 (by omega)];exact ho
theorem KA(w:World):(zeroValue 4).run Tryz.prog w= .ok (.bool false) w:=by kernel_rfl
def GN(W:World)(F:List ei)(e:Ending)(w':World):Prop:=
 ∃v,e= .returned v/\w'.ownsRow (W.heap.size+4) 29 6 v F.length (F.flatMap bU)/\Below W.heap.size W w'
set_option maxHeartbeats 2000000 in
theorem uU(o:Lo)(s:HS)(j:Nat)(W:World)(h:HR W o s)(hi:lv s)(hj:j<s.bF.length)(hT:cB W)(hE:gK W):
  Calls Tryz.prog 47 #[.pointer (some ⟨o.hb,0,none⟩), .int .i64 (j:Int)] W (GN W (dP s j)):=by
 obtain⟨C,eC⟩:=x_ (bE s (j:Int))
 obtain⟨R,eR⟩:=x_ (GN W (cg s C))
 rw[show dP s j=cg s C by rw[eC];rfl, <-eR];have ER:=h_ eR;have pi:Hid (C.length<=1000000):=h_ (by rw[eC];unfold bE fA bJ;rw[jQ,rm,fe];have:=gE s.aw (j:Int);have:=hi.e.jX;omega);have i':∀e∈C,e.Ok/\e.prev.size<=1000000000/\e.body.size<=1000000000:=λe he=>by
  rw[eC]at he;have sm:=List.mem_of_mem_take he;obtain⟨t,ht,rfl⟩:=nS.1 sm;have h1:=(dY _ _).mem_iff.1 ht;unfold j6 at h1;obtain⟨p,hp,rfl⟩:=nS.1 h1;have h2:=(PY.1 hp).1;have h3:fP s.aw p.1=p.2:=by unfold fP;rw[Mk.get_some h.mp.nodup h2];rfl
  rw[h3];exact hi.e.ok p h2
 have pl:=h_ i';have HH:=h_ h;have HI:=h_ hi;have HT:=h_ hT;have HE:=h_ hE;have EC:=h_ eC;have HJ:=h_ hj;clear eR h hi hT hE eC hj i';refine jB 4 Tryz.func47 rfl ?_;simp only[Tryz.ntmps47,tY,kq,qA,Nat.reduceAdd,Nat.reduceSub,M0,MZ,M7,M6,xK,xC];have wn:= @run_makeMap Tryz.prog;obtain⟨V,eV⟩:=x_ ((((W.alloc (.cells #[.pointer (some ⟨o.hb,0,none⟩)] 50)).alloc (.cells #[.slice none 0 0] 73)).alloc (.map #[] 0)).alloc (.cells #[.map (some (W.heap.size+2))] 161))
 have ge:Below W.heap.size W V:=by rw[eV];exact((((Below.refl _ _).alloc (aL _) _).alloc (by simp) _).alloc (by simp;omega) _).alloc (by simp;omega) _
 have zV:V.heap.size=W.heap.size+4:=by rw[eV];simp
 have kw:ay V W.heap.size [.pointer (some ⟨o.hb,0,none⟩)] 50:=by rw[eV];exact(((ay.new W [.pointer (some ⟨o.hb,0,none⟩)] 50).alloc _).alloc _).alloc _
 have f9:ay V (W.heap.size+1) [.slice none 0 0] 73:=by rw[eV];exact((ay.made (by simp) rfl).alloc _).alloc _
 have hm:Mk.bL V nV PM bV (W.heap.size+2) (tE []):=by rw[eV];have h:=Mk.bL.made (enc:=nV) (ok:=PM) (encV:=bV) ((W.alloc (.cells #[.pointer (some ⟨o.hb,0,none⟩)] 50)).alloc (.cells #[.slice none 0 0] 73));rw[show((W.alloc (.cells #[.pointer (some ⟨o.hb,0,none⟩)] 50)).alloc (.cells #[.slice none 0 0] 73)).heap.size=W.heap.size+2 by simp]at h;exact h.bD (Below.heap_alloc _ _ _ h.lt)
 have f:ay V (W.heap.size+3) [.map (some (W.heap.size+2))] 161:=by rw[eV];exact ay.made (by simp) rfl
 have S:xD W o.hb s (C:=C) [] V:=⟨⟨_,f9,World.ownsRow_nil _ _ _ _⟩,hm,f.ag 0 _ rfl,kw.ag 0 _ rfl,ge,by omega⟩
 have EV:=h_ eV.symm;have H1:=h_ (And.intro ge (And.intro zV (And.intro S (yU (f9.ag 0 _ rfl)))));clear eV ge zV kw f9 hm f S;go_wp2_with fail;rw[show W.heap.size+1+1=W.heap.size+2 from rfl,show W.heap.size+2+1=W.heap.size+3 from rfl,EV.out];refine(lP o.hb (j:Int) V).mono ?_;rintro e w' ⟨rfl,rfl⟩;obtain⟨X,L⟩:=x_ ((V.alloc (.cells #[.pointer (some ⟨o.hb,0,none⟩)] 50)).alloc (.cells #[.int .i64 (j:Int)] 3))
 have a:Below V.heap.size V X:=by rw[L];exact((Below.refl _ _).alloc (aL _) _).alloc (by simp) _
 have z2:X.heap.size=W.heap.size+6:=by rw[L];simp[H1.out.2.1]
 have d1:X.cell? ⟨V.heap.size,0,none⟩=some (.pointer (some ⟨o.hb,0,none⟩)):=by rw[L];exact((ay.new V [.pointer (some ⟨o.hb,0,none⟩)] 50).alloc _).ag 0 _ rfl
 have d2:X.cell? ⟨V.heap.size+1,0,none⟩=some (.int .i64 (j:Int)):=by rw[L];exact(ay.made (l:= [.int .i64 (j:Int)]) (by simp) rfl).ag 0 _ rfl
 have M:Below W.heap.size W X:=H1.out.1.trans (a.mono H1.out.1.size);have S:=H1.out.2.2.1.grow a;have m7:iI (W.heap.size+1) X=none:=by rw[gU (a.block _ (by have:=H1.out.2.1;omega))];exact H1.out.2.2.2
 have O:=h_ (And.intro z2 (And.intro d1 (And.intro d2 (And.intro M (And.intro S m7)))));rw[<-L];clear L a z2 d1 d2 M S m7;go_wp2_with fail;refine Du (W.heap.size+1) V.heap.size (V.heap.size+1) (λk=>k=W.heap.size+1) o s j C EC.out rfl (by have:=O.out.1;omega) (λk hk=>by have:=O.out.1;omega) O.out.2.2.2.2.2 O.out.2.1 O.out.2.2.1 (HH.out.below O.out.2.2.2.1) HI.out.e HJ.out (HT.out.below O.out.2.2.2.1 (aL _)) (xD W o.hb s) ?hI O.out.2.2.2.2.1 (λpre W1 W2 h hb=>h.grow hb) (λpre W1 h=>by have:=h.size;omega) ?F ?assign ?body ?done
 case hI=>
  rintro pre w w' row hI hg hr;exact hI.own (by have:=O.out.1;omega) hg hr
 case assign=>
  intro l pre x wr K hI hK;obtain⟨ab,d8⟩:=x_ wr.heap.size
  obtain⟨I,i⟩:=x_ (aK x.1)
  rw[<-d8]at hK;have HK:=h_ hK;have no:=h_ d8;have n8:=h_ i;have E:=h_ (cE I (by rw[i];rfl));have Q:Hid (∀u∈I,u.oneCell'=true):=h_ (by rw[i];exact cm x.1);have d7:Hid (I.length=7):=h_ (by rw[i];rfl);rw[<-i];clear hK d8 i hI
  gi_wp2_with (refine jU (.tmp 7) ?_;refine jt (.inr ⟨_,rfl⟩) E.out Q.out 7 14 wr (wr.alloc (.cells I.toArray 42)) wr.heap.size rfl rfl _ rfl rfl rfl rfl _ (by simp[d7.out]) ?_;simp only[Pt])
  rw[<-no.out,n8.out];exact HK.out
 case body=>
  intro l pre x ab wr hI f8 d6;have N:=pl.out x.1 x.2;have c4:=f8.ag 4 _ rfl;have M:=hI.below;have CP:=h_ (Bh x.1.body wr N.2.2 (HT.out.below M (aL _)) (HE.out.below M (aL _)));have H:=h_ hI;have g8:=h_ f8;have i8:=h_ d6;clear hI f8 d6 N M
  gi_wp2
  refine⟨trivial,Free.dz ?_⟩;refine CP.out.mono ?_;rintro e q ⟨a,⟨y,N,ld,rfl⟩|⟨m6,rfl⟩⟩
  ·have hp:iL x.1.body=some y:=qX N ld;have bi:=a.size;have m9:=H.out.size;obtain⟨w3,e3⟩:=x_ (q.alloc (.cells (bU y).toArray 29))
   have U:ay w3 q.heap.size (bU y) 29:=by rw[e3];exact ay.new q _ _
   have f:Below wr.heap.size wr w3:=by rw[e3];exact a.alloc a.size _
   have d9:=H.out.grow f;have q0:=d9.AN;have qr:Hid (w3.rangeAt q.heap.size 0 (bU y)):=h_ (rg_of U);have E:=h_ (rK (bU y) rfl);have Q:=h_ (lQ y);have pm:=h_ e3;have CV:=h_ (vM o s y w3 (HH.out.below d9.below));have ii:=h_ f;have io:=h_ U;have HP:=h_ hp;have ro:=h_ N;have HZ:=h_ (And.intro bi m9);clear hp bi m9 U f d9 N ld a e3
   gi_wp2_with (first
    |(refine jU (.tmp 8) ?_;refine jt (.inr ⟨_,rfl⟩) E.out Q.out 8 19 q w3 q.heap.size rfl pm.out _ rfl rfl rfl rfl _ rfl ?_;simp only[Pt])
    |(refine lK (.tmp 8) ?_;refine yK (.inr ⟨_,rfl⟩) (Free.wq rfl) 29 (.tmp 8) rfl q.heap.size 0 rfl (bU y) _ qr.out Tryz.underlying29 rfl E.out ?_))
   refine⟨trivial,Free.dz ?_⟩;refine CV.out.mono ?_;rintro e Y ⟨rfl,gc⟩;have m:Below wr.heap.size wr Y:=ii.out.trans (gc.mono ii.out.size);have J:ay Y q.heap.size (bU y) 29:=io.out.below gc io.out.lt;have co:=g8.out.below m g8.out.lt;have T:=H.out.grow m;have r0:=T.AN;have r1:=T.box;have r2:=J.ag 0 _ rfl;have r3:=J.ag 4 _ rfl;have r4:=co.ag 2 _ rfl;have pu:Hid (xD W o.hb s pre Y):=h_ T;have ol:=h_ m;have G0:Hid ((dE s y&&((y.cJ==x.1.day)&& !((cg s (cn pre)).any λz=>z.ref==y.ref)))=false->KeepsFrom X.heap.size wr Y/\ku (λk=>k=W.heap.size+1) (W.heap.size+1) wr Y/\xD W o.hb s (pre++ [x]) Y):=
    h_ λhc=>⟨(gC m).from _,ku.below m (by have:=H.out.size;omega),T.skip x (KT HP.out hc)⟩
   have ci:=h_ J;clear gc m J co T;cases hv:dE s y with
   |false=>
    gi_wp2
    exact G0.out (by rw[hv];rfl)
   |true=>
    have m5:(Instr.lookup 161 (.map (some (W.heap.size+2))) (.int .i64 y.ref) false).run Tryz.prog Y= .ok (.bool ((cg s (cn pre)).any λz=>z.ref==y.ref)) Y:=by have h:=pu.out.mp.look Dg Tryz.underlying161 (KA Y) (Cz ro.out) false;simp only[GA,B6]at h;rw[IH]at h;exact h
    cases hr:((cg s (cn pre)).any λz=>z.ref==y.ref)with
    |true=>
     rw[hr]at m5
     gi_wp2
     ·exact G0.out (by simp[hv,hr])
     ·exact G0.out (by simp[hv, ‹¬y.cJ=x.1.day›])
    |false=>
     rw[hr]at m5;by_cases hd:y.cJ=x.1.day;rotate_left
     ·gi_wp2
      exact G0.out (by simp[hv,hd])
     ·rw[hd]at r3;obtain⟨w5,m8,z5,lw,v,A,c,w6,d1,g7,d2,f2,jp,m4,mt⟩:=H.out.push (B:=X.heap.size) x y ol.out (by have:=O.out.1;omega) HP.out (by simp[hv,hr,hd]) (by have:=i8.out;have:=pi.out;omega);have up:(Instr.mapUpdate 161 (.map (some (W.heap.size+2))) (.int .i64 y.ref) (.bool true)).run Tryz.prog Y= .ok () w5:=m8;have dl:ay w5 q.heap.size (bU y) 29:=ci.out.bG (lw _ ci.out.lt (by have:=HZ.out.1;have:=HZ.out.2;omega));have py:Hid (w5.rangeAt q.heap.size 0 (bU y)):=h_ (rg_of dl);obtain⟨iE,hi,nl,an,bi⟩:=AR;have ip:Hid ((Instr.buildSlice 73 1 #[(0, .agg (bU y).toArray)]).run Tryz.prog w5= .ok (.slice (some ⟨w5.heap.size,0,none⟩) 1 1) (w5.alloc (.cells (bU y).toArray 29))):=h_ (Apk.fj (P:=Tryz.prog) w5 73 29 iE _ Tryz.underlying73 hi nl (bU y).toArray (by rw[tY,jW,an]) (by rw[an];decide) (by rw[an];decide));obtain⟨ww,i9⟩:=x_ (w5.alloc (.cells (bU y).toArray 29))
      rw[<-i9]at ip g7;have rt:=h_ g7;have G6:Hid (KeepsFrom X.heap.size wr (w6.setCell ⟨W.heap.size+1,0,none⟩ (.slice A ((cg s (cn pre)).length+1) c))/\ku (λk=>k=W.heap.size+1) (W.heap.size+1) wr (w6.setCell ⟨W.heap.size+1,0,none⟩ (.slice A ((cg s (cn pre)).length+1) c))/\xD W o.hb s (pre++ [x]) (w6.setCell ⟨W.heap.size+1,0,none⟩ (.slice A ((cg s (cn pre)).length+1) c))):=h_ ⟨mt,m4,jp⟩;clear m8 z5 lw g7 jp m4 mt dl hi nl an bi i9 hd
      gi_wp2_with (first
       |(refine lK (.tmp 8) ?_;refine kL (.inr ⟨_,rfl⟩) rfl 29 (.tmp 8) rfl q.heap.size 0 rfl (bU y) _ py.out Tryz.underlying29 rfl E.out ?_)
       |(refine Hi (.tmp 46) ?_;refine iZ (.inr ⟨_,rfl⟩) rfl (by intro c hc;cases hc) (Apl.fB rfl ip.out) ?_;simp only[Pt])
       |(gi_at_builtin;refine iZ (.inr ⟨_,rfl⟩) rfl (by intro c hc;cases hc) (Apl.dL rfl rfl rfl rt.out) ?_;simp only[Pt]))
      exact G6.out
  ·obtain⟨I,i⟩:∃I:List Value,bK=I.toArray:=⟨bK.toList,by simp⟩
   have gt:I.length=6:=by have h:bK.size=6:=rfl;rw[i]at h;simpa using h
   have lm:∀u∈I,u.oneCell'=true:=by
    have h:∀u∈bK.toList,u.oneCell'=true:=by simp[bK,Value.oneCell']
    rw[i]at h;simpa using h
   have f:Below wr.heap.size wr (q.alloc (.cells I.toArray 29)):=a.alloc a.size _;have Z:W.heap.size+1<wr.heap.size:=by have:=H.out.size;omega
   have G:Hid (KeepsFrom X.heap.size wr (q.alloc (.cells I.toArray 29))/\ku (λk=>k=W.heap.size+1) (W.heap.size+1) wr (q.alloc (.cells I.toArray 29))/\xD W o.hb s (pre++ [x]) (q.alloc (.cells I.toArray 29))):=
    h_ ⟨(gC f).from _,ku.below f Z,(H.out.grow f).skip x (Hc (qW m6))⟩
   have E:=h_ (rK I gt);have d7:=h_ gt;have Q:=h_ lm;clear gt lm f Z a m6;rw[i]
   gi_wp2_with (refine jU (.tmp 8) ?_;refine jt (.inr ⟨_,rfl⟩) E.out Q.out 8 19 q (q.alloc (.cells I.toArray 29)) q.heap.size rfl rfl _ rfl rfl rfl rfl _ (by simp[d7.out]) ?_;simp only[Pt])
   refine⟨trivial, ?_⟩
   gi_wp2
   exact G.out
 case done=>
  rintro D xs w hD hv hI hK;obtain⟨⟨v,hk,r⟩,_,_,_,li,Z⟩:=hI;rw[hv]at r;obtain⟨A,c,rfl,hc,ul⟩:=gV jW r;have c0:=hk.ag 0 _ rfl;have rx:W.heap.size+4<D:=by have:=O.out.1;omega
  have G:Hid (R (.returned (.slice A (cg s C).length c)) (w.putObj D (.deferred none))):=h_ (by
   rw[ER.out];refine⟨_,rfl,bC r (λk e=>World.putObj_heap_other (λe3=> ?_)),pQ li (by omega)⟩;rcases r.2 with⟨h,_⟩|⟨g,ut,v6,h,_,h4,_⟩
   ·rw[h]at e;cases e
   ·rw[h]at e;have e':g=k:=by injection e
    rw[e',e3,hK]at h4;cases h4)
  have HK:=h_ hK;clear hk r li Z ul hc hD hv hK rx;go_wp2_with fail;exact⟨by simp, .inl ⟨_,_,rfl,run_takeDeferred HK.out,⟨_,by simp[results,Tryz.results47,go_sem],G.out⟩⟩⟩
end Go.Proofs.YtkmbmfengcdmoaaGreatDoor
namespace Go.Jn
open Go Go.Dk
end Go.Jn
namespace Go.Proofs.YtkmbmfengcdmoaaGreatDoor
open Go.RowKit Go.ay Go.Jn Go.Dk Go.Mp Go.Rf Go.Shelf Go.Apl Go.Opn

section
variable {we w w':World} {jb b bs bm n:Nat} {pv rv:Value} {s:JS} {d:DD}
theorem PJ.ly{v:Value}{e:Ending}(h:PJ we w jb b bs bm n pv rv s)(p:eM w b bs bm n pv d v e w'):
  e= .returned v/\∃a c,PJ we w' jb b bs a n c rv {s with d:=d}/\aJ (pD jb b bs bm pv rv) w w'/\(∀k,pD jb b bs a c rv k->pD jb b bs bm pv rv k\/w.heap.size<=k):=by
 obtain⟨o,a,c,q,g,hb,hv⟩:=p;have r:=h.e.bl.size;have m:∀k,pD jb b bs a c rv k->pD jb b bs bm pv rv k\/w.heap.size<=k:=by
  rintro k (rfl|e|rfl|rfl|rfl|e)
  ·exact .inl (.inl rfl)
  ·exact .inl (.inr (.inl e))
  ·exact .inl (.inr (.inr (.inl rfl)))
  ·exact .inl (.inr (.inr (.inr (.inl rfl))))
  ·rcases hb with rfl|hb
   ·exact .inl (.inr (.inr (.inr (.inr (.inl rfl)))))
   ·exact .inr hb
  ·exact(hv k e).imp (λh=> .inr (.inr (.inr (.inr (.inr h))))) id
 have i:∀k,pD jb b bs a c rv k->we.heap.size<=k:=λk g=>(m k g).elim (λl=>h.fp l) (λl=>by omega)
 refine⟨o,a,c,⟨⟨h.j.n4,q, ?_, ?_,h.j.num,h.j.hf,h.j.len,h.j.at_⟩,⟨h.e.t,h.e.bl.trans (g.below (λk g=>h.e.f k g) r),λk g=>i k (.inr (.inr g))⟩,h.jb,h.rv⟩,g.mono (λk _ f=> .inr (.inr f)),m⟩
 ·exact h.j.bg.bG (g.block jb h.j.bg.lt (jG h.j.ly h.j.bg (by decide) (by decide) (by decide)))
 ·exact h.j.row.bD (λk e=>g.block k (World.ownsRow.lt h.j.row k e).2 (qp h.j.ly h.j.row (by decide) (by decide) (by decide) e))
theorem Ie(h:aI w b bs bm pv d n):Calls Tryz.prog 25 #[.pointer (some ⟨b,0,none⟩)] w (eM w b bs bm n pv d.start (.tuple #[])):=
 (Gn h).mono λ_ _ p=>⟨p.1,bm,pv,p.2.1,p.2.2, .inl rfl,λ_ h=> .inl h⟩
theorem OA(h:aI w b bs bm pv d n)(x y z:Int)(a: -9223372036854775808<=x)(c:x<=9223372036854775807)(e: -9223372036854775808<=y)(f:y<=9223372036854775807)(g: -9223372036854775808<=z)(i:z<=9223372036854775807):
  Calls Tryz.prog 21 #[.pointer (some ⟨b,0,none⟩), .int .i64 x, .int .i64 y, .int .i64 z] w (eM w b bs bm n pv (d.arm x y z) (.tuple #[])):=
 (K5 h x y z a c e f g i).mono λ_ _ p=>⟨p.1,bm,pv,p.2.1,p.2.2, .inl rfl,λ_ h=> .inl h⟩
end
end Go.Proofs.YtkmbmfengcdmoaaGreatDoor
namespace Go.Proofs.YtkmbmfengcdmoaaGreatDoor
open Go.RowKit Go.ay Go.Jn Go.Dk Go.Ho Go.Opn Go.Maps Go.WideMaps Go.Apl Go.Mg Go.Rf Go.Lib
structure Pl where
 o:Lo
 b:Nat
 bs:Nat
 bm:Nat
 pv:Value
 rv:Value
abbrev Pl.J (p:Pl):Nat->Prop:=pD p.o.jb p.b p.bs p.bm p.pv p.rv
def Pl.H(p:Pl)(k:Nat):Prop:=k=p.o.hb\/k=p.o.mb\/p.o.A.map (·.block)=some k
def Pl.F(p:Pl)(k:Nat):Prop:=p.H k\/p.J k
structure HC (we w:World) (n:Nat) (p:Pl) (s:HS):Prop where
 hr:HR w p.o s
 pj:PJ we w p.o.jb p.b p.bs p.bm n p.pv p.rv s.js
 tX:∀k,p.H k->we.heap.size<=k
 off:∀k,p.H k-> ¬p.J k
 am:∀k,p.o.A.map (·.block)=some k->k≠p.o.hb/\k≠p.o.mb/\k<w.heap.size
section
variable {we w w':World} {n:Nat} {p:Pl} {s:HS} {F:Nat->Prop}
theorem HC.lt(h:HC we w n p s){k:Nat}(a:p.F k):k<w.heap.size:=by
 rcases a with(rfl|rfl|a)|a
 ·exact h.hr.bg.lt
 ·exact h.hr.mp.lt
 ·exact(h.am k a).2.2
 ·exact h.pj.j.lt a
theorem HC.ju(h:HC we w n p s){k:Nat}(a:p.F k):we.heap.size<=k:=by
 rcases a with a|a
 ·exact h.tX k a
 ·exact h.pj.fp a
theorem HR.Nw{o:Lo}(h:HR w o s)(a:∀k,(k=o.hb\/k=o.mb\/o.A.map (·.block)=some k)->w'.heap[k]? =w.heap[k]?):HR w' o s:=
 ⟨h.bg.bG (a _ (.inl rfl)),h.mp.bD (a _ (.inr (.inl rfl))),jw h.bF (λk e=>a k (.inr (.inr e)))⟩
theorem HC.bD(h:HC we w n p s)(a:aJ F w w')(c:∀k,p.F k-> ¬F k)(g:∀k,F k->we.heap.size<=k):HC we w' n p s:=
 ⟨h.hr.Nw (λk f=>a.block k (h.lt (.inl f)) (c k (.inl f))),h.pj.bD a (λk i=>c k (.inr i)) g,h.tX,h.off,λk e=>⟨(h.am k e).1,(h.am k e).2.1,nX (h.am k e).2.2 a.size⟩⟩
theorem HC.grow(h:HC we w n p s)(hb:Below w.heap.size w w'):HC we w' n p s:=h.bD (F:=λ_=>False) (aJ.aY hb) (λ_ _ f=>f) (λ_ f=>f.elim)
end
def bS(we w:World)(n:Nat)(p:Pl)(s':HS)(v:Value)(e:Ending)(w':World):Prop:=
 e= .returned v/\∃p':Pl,p'.o=p.o/\p'.b=p.b/\p'.bs=p.bs/\HC we w' n p' s'/\aJ p.F w w'/\(∀k,p'.F k->p.F k\/w.heap.size<=k)
theorem bS.same{we w w':World}{n:Nat}{p:Pl}{s:HS}(h:HC we w n p s)(hb:Below w.heap.size w w')(v:Value):bS we w n p s v (.returned v) w':=
 ⟨rfl,p,rfl,rfl,rfl,h.grow hb,aJ.aY hb,λ_ h=> .inl h⟩
theorem bS.after{we w a w':World}{n:Nat}{p:Pl}{s':HS}{v:Value}{e:Ending}(hb:Below w.heap.size w a)(h:bS we a n p s' v e w'):bS we w n p s' v e w':=by obtain⟨c,r,g,i,j,l,m,o⟩:=h;exact⟨c,r,g,i,j,l,(aJ.aY hb).trans m (λ_ _ f=>f),λk q=>(o k q).imp id (λh=>fO hb.size h)⟩
section
variable {we w w':World} {n:Nat} {p:Pl} {s:HS}
theorem HC.ne(h:HC we w n p s):p.o.hb≠p.o.mb:=λe=>by
 obtain⟨a,c,hm,_⟩:=h.hr.mp;rw[<-e,show w.heap[p.o.hb]? =_ from h.hr.bg]at hm;cases hm
theorem HC.NK{a:Nat}{c rv':Value}{l:JS}(h:HC we w n p s)(q:PJ we w' p.o.jb p.b p.bs a n c rv' l)(j:aJ p.J w w')(m:∀k,pD p.o.jb p.b p.bs a c rv' k->p.J k\/w.heap.size<=k):
  HC we w' n {p with bm:=a,pv:=c,rv:=rv'} {s with js:=l}:=
 have i:=h.hr.Nw (λk f=>j.block k (h.lt (.inl f)) (h.off k f))
 ⟨⟨i.bg,i.mp,i.bF⟩,q,h.tX,λk f g=>by
  rcases m k g with g|g
  ·exact h.off k f g
  ·exact absurd (h.lt (.inl f)) (by omega),λk e=>⟨(h.am k e).1,(h.am k e).2.1,nX (h.am k e).2.2 j.size⟩⟩
theorem HC.DK{a:dv}(h:HC we w n p s)(hm:Mk.bL w' Value.string qw fv p.o.mb a)(c:aJ (λk=>k=p.o.mb) w w'):HC we w' n p {s with aw:=a}:=
 ⟨⟨h.hr.bg.bG (c.block _ h.hr.bg.lt h.ne),hm,jw h.hr.bF (λk e=>c.block k (h.am k e).2.2 (h.am k e).2.1)⟩,
  h.pj.bD c (λk f e=>h.off k (.inr (.inl e)) f) (λk e=>h.tX k (.inr (.inl e))),h.tX,h.off,λk e=>⟨(h.am k e).1,(h.am k e).2.1,nX (h.am k e).2.2 c.size⟩⟩
theorem HC.RL(h:HC we w n p s):HC we (w.setCell ⟨p.o.hb,7,none⟩ (.bool false)) n p {s with run:=false}:=by
 have a:aJ (λk=>k=p.o.hb) w (w.setCell ⟨p.o.hb,7,none⟩ (.bool false)):=(aJ.refl (λk=>k=p.o.hb) w).setCell (p:=⟨p.o.hb,7,none⟩) (λ_=>rfl) _;exact⟨⟨h.hr.bg.set 7 (.bool false),h.hr.mp.bD (a.block _ h.hr.mp.lt h.ne.symm),jw h.hr.bF (λk e=>a.block k (h.am k e).2.2 (h.am k e).1)⟩,
  h.pj.bD a (λk c e=>h.off k (.inl e) c) (λk e=>h.tX k (.inl e)),h.tX,h.off,λk e=>⟨(h.am k e).1,(h.am k e).2.1,nX (h.am k e).2.2 a.size⟩⟩
end
def HS.store(n:Nat)(s:HS)(e:aV)(text:ByteArray):HS×Int:=
 if(s.js.append n text.data.toList).2=0 then({s with js:=(s.js.append n text.data.toList).1,aw:=Mk.put s.aw text e},0)
 else if(s.js.append n text.data.toList).2=19 then({s with js:=(s.js.append n text.data.toList).1},19)
 else({s with js:=(s.js.append n text.data.toList).1,run:=false},21)
set_option maxHeartbeats 2000000 in
theorem sO{we w:World}{n:Nat}{p:Pl}{s:HS}(l:aV)(text:ByteArray)(h:HC we w n p s)(ht:text.size<=1000000000)(q:s.js.d.aF.length<=900000)(B:s.js.bW.length<=1000000):
  Calls Tryz.prog 52 #[.pointer (some ⟨p.o.hb,0,none⟩), .agg (aK l).toArray, .string text] w (bS we w n p (s.store n l text).1 (.int .i64 (s.store n l text).2)):=by
 obtain⟨R,eR⟩:=x_ (bS we w n p (s.store n l text).1 (.int .i64 (s.store n l text).2))
 rw[<-eR];have ER:=h_ eR;obtain⟨u,v⟩:=x_ (aK l)
 have O:u.length=7:=by rw[v];rfl
 obtain⟨V,K⟩:=x_ (w.alloc (.cells u.toArray 42))
 have N:ay V w.heap.size u 42:=by rw[K];exact ay.new w u 42
 have D:Below w.heap.size w V:=by rw[K];exact(Below.refl _ _).alloc (aL _) _
 have M:=h.grow D;have AP:=h_ (Ab text M.pj.j q B (by omega) M.pj.e);have EV:Hid (w.alloc (.cells u.toArray 42)=V):=h_ K.symm;have HH:=h_ h;have HV:=h_ M;have I:=h_ N;have ci:=h_ D;have HI:=h_ (cE u O);have bi:=h_ v;have co:Hid (qw text):=h_ (by unfold qw maxLen;omega);have c6:=M.hr.bg.ag 6 _ rfl;have SZ:Hid (V.heap.size=w.heap.size+1):=h_ (by rw[K];simp);rw[<-v];clear eR v O K N D M h q B ht;go_enter Tryz.func52,Tryz.ntmps52;go_wp2_with (simp only[EV.out])
 refine AP.out.mono ?_;intro e t hj;obtain⟨r,er⟩:=x_ (s.js.append n text.data.toList)
 rw[<-er]at hj;obtain⟨H,c⟩:=r;obtain⟨rfl,J,Z,an,hp,S,P⟩:=HV.out.pj.next hj;have L:=HV.out.NK hp S P;have X:s.store n l text=if c=0 then({s with js:=H,aw:=Mk.put s.aw text l},0)else if c=19 then({s with js:=H},19)else({s with js:=H,run:=false},21):=by unfold HS.store;rw[<-er]
 have A:ay t w.heap.size u 42:=I.out.bG (S.block _ I.out.lt (λe=>by have:=HH.out.pj.j.lt e;omega));have d6:=S.size;have a:∀(x:World) (s':HS),HC we x n {p with bm:=J,pv:=Z,rv:=an} s'->aJ p.F t x->bS we w n p s' (.int .i64 (s.store n l text).2) (.returned (.int .i64 (s.store n l text).2)) x:=λx s' h3 Y=>
  ⟨rfl,{p with bm:=J,pv:=Z,rv:=an},rfl,rfl,rfl,h3,((aJ.aY ci.out).trans (S.mono (λ_ _ f=> .inr f)) (λ_ _ f=>f)).trans Y (λ_ _ f=>f),λk dl=>by
   rcases dl with hH|hJ
   ·exact .inl (.inl hH)
   ·rcases P k hJ with h|h
    ·exact .inl (.inr h)
    ·have:=SZ.out;exact .inr (by omega)⟩
 have a:=h_ a;have H2:=h_ L;have i:=h_ X;have z:=h_ A;have c8:=L.hr.bg.ag 8 _ rfl;have f7:=L.hr.bg.frozen 7;have c7:=L.hr.bg.ag 7 _ rfl;dsimp only at c8 c7;clear hj er hp S P L X A d6 AP c6;by_cases E:c=0
 ·subst E;have HQ:Hid (∀w',Below t.heap.size t w'->w'.cell? ⟨p.o.hb,8,none⟩=some (.map (some p.o.mb))):=h_ λw' h=>aO c8 h
  have HM:Hid (∀w',Below t.heap.size t w'->w'.rangeAt w.heap.size 0 u):=h_ λw' h=>rg_of (z.out.below h z.out.lt)
  go_wp2_with fail;refine Free.ai 6 [] (λy=>Below t.heap.size t y) (by kernel_rfl) (by kernel_rfl) (Free.aW (λj mk r P=>by cases P)) (Below.refl _ _).drew (λ_ _ h g=>h.trans (Below.mono g h.size)) ?_;simp only[eJ,dT];iterate 5 (apply Free.ae (Free.wq rfl) rfl;(intro w' hB hA;have q8:=HQ.out w' hB;clear hA hB;go_light;go_simp<;>rfl);(try simp only[Pt]))
  apply Free.ae (Free.wq rfl) rfl
  ·intro w' hB hA;exact Hk.aU 42 (.tmp 4) rfl w.heap.size 0 rfl u _ (HM.out w' hB) Tryz.underlying42 rfl HI.out
  simp only[Pt];apply Free.ax;intro wz hz _ _;simp only[fm,fo];obtain⟨x,U,T,Q,z3⟩:=(H2.out.grow hz).hr.mp.store kH Tryz.underlying102 co.out l;have Y:aJ (λk=>k=p.o.mb) wz x:=(aJ.refl (λk=>k=p.o.mb) wz).grown Q (λk e _=>by injection e with e;exact e.symm);have G:Hid (R (.returned (.int .i64 0)) x):=h_ (by
   have:=a.out x _ ((H2.out.grow hz).DK T Y) ((aJ.aY hz).trans (Y.mono (λ_ _ e=> .inl (.inr (.inl e)))) (λ_ _ f=>f));rw[i.out]at this;rw[ER.out,i.out];exact this)
  have d7:(Instr.mapUpdate 102 (.map (some p.o.mb)) (.string text) (.agg u.toArray)).run Tryz.prog wz= .ok () x:=by rw[bi.out];exact U
  clear a Y Q z3 T U hz;go_wp2_with fail;(try go_ret);exact G.out
 ·by_cases m:c=19
  ·subst m;have G:Hid (R (.returned (.int .i64 19)) t):=h_ (by
    have:=a.out t _ H2.out (aJ.refl _ _);rw[i.out]at this;rw[ER.out,i.out];exact this)
   clear a;go_wp2_with fail;(try go_ret);exact G.out
  ·have G:Hid (R (.returned (.int .i64 21)) (t.setCell ⟨p.o.hb,7,none⟩ (.bool false))):=h_ (by
    have:=a.out _ _ H2.out.RL ((aJ.refl _ _).setCell (p:=⟨p.o.hb,7,none⟩) (λ_=> .inl (.inl rfl)) _);rw[i.out,if_neg E,if_neg m]at this;rw[ER.out,i.out,if_neg E,if_neg m];exact this)
   clear a;go_wp2_with fail;(try go_ret);exact G.out
end Go.Proofs.YtkmbmfengcdmoaaGreatDoor
