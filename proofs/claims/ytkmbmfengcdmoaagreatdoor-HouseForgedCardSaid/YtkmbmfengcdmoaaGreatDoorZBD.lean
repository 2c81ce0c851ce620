/- Package house: a range over the entries that count. Condition: the house lies in memory; the variables of digest and strconv hold their numbers. -/
import Derived.Test.YtkmbmfengcdmoaaGreatDoorZAV
import Derived.Test.YtkmbmfengcdmoaaGreatDoorZBC
import Derived.Test.YtkmbmfengcdmoaaGreatDoorZAS
import Derived.Test.YtkmbmfengcdmoaaGreatDoorZAL
import Derived.RangeFuncNested
import Derived.RangeFuncBox
set_option linter.all false
set_option maxRecDepth 100000
namespace Go.Rf
open Go Go.RowKit Go.Opn
def iI(b:Nat)(w:World):Option Nat:=match w.cell? ⟨b,0,none⟩with
 |some (.slice (some a) _ _)=>some a.block
 |_=>none
structure ku (X:Nat->Prop) (b:Nat) (w w':World):Prop where
 size:w.heap.size<=w'.heap.size
 bD:∀k,k<w.heap.size->(∃c t f,w.heap[k]? =some (.cells c t f))-> ¬X k->iI b w≠some k->w'.heap[k]? =w.heap[k]?
 own:iI b w'=iI b w\/∃k,iI b w'=some k/\w.heap.size<=k
variable {X:Nat->Prop} {b:Nat}
theorem ku.refl(w:World):ku X b w w:=⟨aL _,λ_ _ _ _ _=>rfl, .inl rfl⟩
theorem ku.trans{u v w:World}(h:ku X b u v)(g:ku X b v w):ku X b u w:=by
 refine⟨fO h.size g.size,λk hk hc hX ho=> ?_, ?_⟩
 ·have e1:=h.bD k hk hc hX ho;rw[g.bD k (nX hk h.size) (by rw[e1];exact hc) hX ?_,e1];rcases h.own with e|⟨j,e,hj⟩
  ·rw[e];exact ho
  ·rw[e];intro e2;injection e2 with e2;omega
 ·rcases g.own with e|⟨j,e,hj⟩
  ·rw[e];exact h.own
  ·exact .inr ⟨j,e,fO h.size hj⟩
theorem Ht{w:World}{a:Addr}{v:Value}(h:w.cell? a=some v):∃c t f,w.heap[a.block]? =some (.cells c t f):=by
 unfold World.cell? at h;split at h
 ·rename_i c t f e;exact⟨c,t,f,e⟩
 ·cases h
theorem gU{w w':World}(h:w'.heap[b]? =w.heap[b]?):iI b w'=iI b w:=by unfold iI;rw[World.cell?_of_block (a:=⟨b,0,none⟩) h]
theorem ku.book(W:World)(l:Nat)(o o':Obj)(hl:l≠b)(ho:W.heap[l]? =some o)(hc:o.isCells=false):ku X b W (W.putObj l o'):=by
 have hsz:(W.putObj l o').heap.size=W.heap.size:=by simp[World.putObj]
 refine⟨by omega,λk _ h _ _=>World.putObj_heap_other (λe2=> ?_), .inl (gU (World.putObj_heap_other (nq hl)))⟩;obtain⟨c,t,f,e⟩:=h;subst e2;rw[e]at ho;cases ho;cases hc
theorem ku.below{w w':World}(h:Below w.heap.size w w')(hb:b<w.heap.size):ku X b w w':=
 ⟨h.size,λk hk _ _ _=>h.block k hk, .inl (gU (h.block b hb))⟩
theorem jw{α:Type}{w w':World}{sz:Nat}{enc:α->List Value}{A:Option Addr}{es:List α}(h:SL w sz enc A es)(hk:∀k,A.map (·.block)=some k->w'.heap[k]? =w.heap[k]?):SL w' sz enc A es:=
 ⟨λhn=>by
  obtain⟨c,off,hA,hc⟩:=h.cells hn;exact⟨c,off,hA,λi e hi p u hu=>by rw[World.cell?_of_block (a:=⟨c,off+(i*sz+p),none⟩) (hk c (by rw[hA];rfl))];exact hc i e hi p u hu⟩⟩
end Go.Rf
namespace Go.Proofs.YtkmbmfengcdmoaaGreatDoor
open Go.RowKit Go.ay Go.Opn Go.Rf

section
variable {F:Fence} {m:Nat} {P:Program} {ops:Array Oper} {rest:List Oper} {a:Act} {Q:Exit->Act->World->Prop}
theorem lK(x:Operand){t:TypeId}{d:Option Tmp}{ty:TypeId}{ps:String}{af:Array Edge}{g:Option (Nat×Bool)}{w:World}(h:wpListIn F m P ops Q (⟨d, .load t x,ty,ps,af,g⟩::rest) a w):wpListIn F m P ops Q (⟨d, .load t x,ty,ps,af,g⟩::rest) a w:=h
theorem jU(x:Operand){t:TypeId}{y:Operand}{d:Option Tmp}{ty:TypeId}{ps:String}{af:Array Edge}{g:Option (Nat×Bool)}{w:World}(h:wpListIn F m P ops Q (⟨d, .store t x y,ty,ps,af,g⟩::rest) a w):wpListIn F m P ops Q (⟨d, .store t x y,ty,ps,af,g⟩::rest) a w:=h
theorem Hi(x:Operand){t:TypeId}{n:Nat}{d:Option Tmp}{ty:TypeId}{ps:String}{af:Array Edge}{g:Option (Nat×Bool)}{w:World}(h:wpListIn F m P ops Q (⟨d, .buildSlice t n #[(0,x)],ty,ps,af,g⟩::rest) a w):wpListIn F m P ops Q (⟨d, .buildSlice t n #[(0,x)],ty,ps,af,g⟩::rest) a w:=h
theorem jM(hF:F=Fence.wide\/∃l0,F=Fence.wide.inRound l0){w:World}{o:Oper}(hg:o.guard=none)(hd:∀c,o.op≠ .defer c)(h:o.wp P a w (wpListIn F m P ops Q rest) (λ_ _ _=>False)):wpListIn F m P ops Q (o::rest) a w:=by unfold wpListIn;rw[if_pos (by simp[Region.wanted,hg])];exact Free.O2 hF hd (λ_ _ h=>h) h
theorem iZ(hF:F=Fence.wide\/∃l0,F=Fence.wide.inRound l0){w w':World}{o:Oper}{v:Value}(hg:o.guard=none)(hd:∀c,o.op≠ .defer c)(h:(execOp a.eval o).run P w= .ok (.value v) w')(k:wpListIn F m P ops Q rest (a.put o.dst v) w'):wpListIn F m P ops Q (o::rest) a w:=
 jM hF hg hd (by unfold Oper.wp;rw[h];exact k)
theorem kL(hF:F=Fence.wide\/∃l0,F=Fence.wide.inRound l0){op:Oper}{w:World}(hgd:op.guard=none)(ty:TypeId)(x:Operand)(ho:op.op= .load ty x)(b o:Nat)(hx:a.eval x= .pointer (some ⟨b,o,none⟩))(cs:List Value)(d:TypeDesc)(hc:w.rangeAt b o cs)
  (hu:P.underlying ty=some d) (hd:d.isRow=true) (hi:(P.info? ty).map (·.size)=some cs.length) (h:wpListIn F m P ops Q rest (a.put op.dst (.agg cs.toArray)) w):wpListIn F m P ops Q (op::rest) a w:=
 jM hF hgd (by rw[ho];exact λc hc=>by cases hc) (wp_load_mid ty x ho b o hx cs d hc hu hd hi h)
theorem uu(hF:F=Fence.wide\/∃l0,F=Fence.wide.inRound l0){w:World}{o:Oper}(hw:Region.wanted o (yielded ops a.tmps)=true)(hd:∀c,o.op≠ .defer c)(h:o.wp P a w (wpListIn F m P ops Q rest) (λ_ _ _=>False)):wpListIn F m P ops Q (o::rest) a w:=by unfold wpListIn;rw[if_pos hw];exact Free.O2 hF hd (λ_ _ h=>h) h
theorem yK(hF:F=Fence.wide\/∃l0,F=Fence.wide.inRound l0){op:Oper}{w:World}(hw:Region.wanted op (yielded ops a.tmps)=true)(ty:TypeId)(x:Operand)(ho:op.op= .load ty x)(b o:Nat)(hx:a.eval x= .pointer (some ⟨b,o,none⟩))(cs:List Value)(d:TypeDesc)(hc:w.rangeAt b o cs)
  (hu:P.underlying ty=some d) (hd:d.isRow=true) (hi:(P.info? ty).map (·.size)=some cs.length) (h:wpListIn F m P ops Q rest (a.put op.dst (.agg cs.toArray)) w):wpListIn F m P ops Q (op::rest) a w:=
 uu hF hw (by rw[ho];exact λc hc=>by cases hc) (wp_load_mid ty x ho b o hx cs d hc hu hd hi h)
theorem jt(hF:F=Fence.wide\/∃l0,F=Fence.wide.inRound l0){T:TypeId}{cs:List Value}(hi:(P.info? T).map (·.size)=some cs.length)(hc1:∀v∈cs,v.oneCell'=true)(s t:Nat)(W0 W1:World)(b:Nat)(hb:b=W0.heap.size)(e1:W1=W0.alloc (.cells cs.toArray T))
  (o:Oper) (hgd:o.guard=none) (ho:o.op= .store T (.tmp s) (.tmp t)) (hx:a.eval (.tmp s)= .pointer (some ⟨b,0,none⟩)) (hy:a.eval (.tmp t)= .agg cs.toArray) (ju:Array Value) (hold:ju.size=cs.length)
  (hk:wpListIn F m P ops Q rest (a.put o.dst undef) W1):wpListIn F m P ops Q (o::rest) a (W0.alloc (.cells ju T)):=by
 refine jM hF hgd (by rw[ho];exact λc hc=>by cases hc) (wp_store_row T (.tmp s) (.tmp t) ho b cs.toArray hx hy T ju (by rw[hb];exact heap_alloc_new W0 _) (by rw[hi];simp) (by rw[hold];simp) (all_oneCell_toArray hc1) ?_);rw[hb,World.setRow_alloc_new, <-e1];exact hk
end
structure Qi {α:Type} (X:Nat->Prop) (b:Nat) (sz:Nat) (enc:α->List Value) (A:Option Addr) (l:List α) (w:World):Prop where
 sl:SL w sz enc A l
 off:l≠ []->∀k,A.map (·.block)=some k->k<w.heap.size/\(∃c t f,w.heap[k]? =some (.cells c t f))/\ ¬X k/\iI b w≠some k
theorem Mh{X:Nat->Prop}{b k:Nat}{w w':World}(h:ku X b w w')(hk:k<w.heap.size)(ho:iI b w≠some k):iI b w'≠some k:=by
 rcases h.own with e|⟨j,e,hj⟩
 ·rw[e];exact ho
 ·rw[e];intro e2;injection e2 with e2;omega
theorem Qi.bD{α:Type}{X:Nat->Prop}{b sz:Nat}{enc:α->List Value}{A:Option Addr}{l:List α}{w w':World}(h:Qi X b sz enc A l w)(hk:ku X b w w'):Qi X b sz enc A l w':=by
 by_cases hl:l= []
 ·subst hl;exact⟨SL.nil,λh=>absurd rfl h⟩
 ·refine⟨jw h.sl λk e=> ?_,λ_ k e=> ?_⟩
  ·obtain⟨q1,q2,q3,q4⟩:=h.off hl k e;exact hk.bD k q1 q2 q3 q4
  ·obtain⟨q1,q2,q3,q4⟩:=h.off hl k e;exact⟨nX q1 hk.size,by rw[hk.bD k q1 q2 q3 q4];exact q2,q3,Mh hk q1 q4⟩
open Go.Jn Go.Dk Go.Ho Go.Maps Go.WideMaps Go.Apl Go.Mg Go.Lib
attribute [local go_sem] Oper.semAt_some

theorem lP(hb:Nat)(house:Int)(w:World):
  Calls Tryz.prog 80 #[.pointer (some ⟨hb,0,none⟩), .int .i64 house] w λe w'=>e= .returned (.func (.func 124) #[] #[.pointer (some ⟨w.heap.size,0,none⟩), .pointer (some ⟨w.heap.size+1,0,none⟩)])/\w'=(w.alloc (.cells #[.pointer (some ⟨hb,0,none⟩)] 50)).alloc (.cells #[.int .i64 house] 3):=by
 have hmf:∀(fn:Fn) (first cap:Array Value) (w:World),(Instr.makeFunc fn first cap).run Tryz.prog w= .ok (.func fn first cap) w:=λ_ _ _ _=>rfl
 go_enter Tryz.func80,Tryz.ntmps80;go_wp2_with fail;go_ret;exact⟨rfl,rfl⟩
abbrev jR (C:List aV):= {x:aV // x∈C}
def cn{C:List aV}(l:List (jR C)):List aV:=l.map (·.1)
theorem ie{C:List aV}(l:List (jR C))(x:jR C):cn (l++ [x])=cn l++ [x.1]:=by simp[cn]
theorem mR{C:List aV}(l:List (jR C)):(cn l).length=l.length:=by simp[cn]
abbrev Cy {C:List aV} (x:jR C):Array Value:= #[.agg (aK x.1).toArray]
def Hw(l:List aV)(n:Nat):Prop:=n<l.length/\(l[n]?.map (·.seq))=some (n:Int)/\(n+1=l.length\/(l[n+1]?.map (·.seq))≠some (n:Int))
theorem uP{l:List aV}{k n:Nat}(h:Hw l n):jD l (k+1) n=jD l k (n+1):=by rw[jD];exact if_pos h
theorem Hx{l:List aV}{k n:Nat}(h: ¬Hw l n):jD l k n=n:=by
 cases k with
 |zero=>rfl
 |succ k=>rw[jD];exact if_neg h
theorem yi{l:List aV}:∀(k n:Nat),n<=l.length->jD l k n<=l.length
 |0,n,h=>h
 |k+1,n,h=>by
  rw[jD];split
  ·rename_i q;exact yi k (n+1) q.1
  ·exact h
theorem Lr(l:List aV):pV l<=l.length:=yi _ _ (gu _)
theorem yg{l:List aV}{house pub:Int}:∀(n k:Nat),(gi l house pub n k).2= -1\/∃i:Nat,i<l.length/\(gi l house pub n k).2=(i:Int)
 |0,k=> .inl rfl
 |n+1,k=>by
  rw[gi];split
  ·exact .inl rfl
  ·rename_i e he;split
   ·exact yg n (k+1)
   ·exact .inr ⟨k,(jS.1 he).1,rfl⟩
theorem Ot(l:List aV)(house pub:Int):(iA l house pub).2= -1\/∃i:Nat,i<l.length/\(iA l house pub).2=(i:Int):=by
 unfold iA;split
 ·exact yg _ _
 ·exact .inl rfl
set_option maxHeartbeats 2000000 in
theorem ym(n:Nat)(hn:1<=n)(l b b1 b2:Nat)(X:Nat->Prop)(o:Lo)(s:HS)(hd:Nat)(L C:List aV)(eL:L=bJ s.aw hd)(eC:C=bE s hd)(J Jx:List (jR C)->World->Prop)(B:Nat)(hJ:AbidesFrom B J)
  (hY:∀pre x W,J pre W->pre.length<C.length->YieldAt Fence.wide (n-1) Tryz.prog l (Cy x) W λe W'=>
   (e= .returned (.bool true)/\J (pre++ [x]) W'/\ku X b W W')\/(e= .returned (.bool false)/\Jx (pre++ [x]) W'))
  (W:World) (hb:b<W.heap.size) (hX:∀k,X k->k<W.heap.size) (hob:iI b W=none) (h1:W.cell? ⟨b1,0,none⟩=some (.pointer (some ⟨o.hb,0,none⟩))) (h2:W.cell? ⟨b2,0,none⟩=some (.int .i64 (hd:Int)))
  (hH:HR W o s) (hE:Nc s.aw) (hp:hd<s.pubs.length) (hT:cB W) (h0:J [] W):
  CallsIn Fence.wide n Tryz.prog 124 #[.func (.yield l) #[] #[], .pointer (some ⟨b1,0,none⟩), .pointer (some ⟨b2,0,none⟩)] W λe W'=>(∃v,e= .returned v)/\
   ((∃ys:List (jR C),cn ys=C/\J ys W')\/(∃pre:List (jR C),cn pre <+:C/\Jx pre W')):=by
 obtain⟨R,eR⟩:=x_ (λe W'=>(∃v,e= .returned v)/\((∃ys:List (jR C),cn ys=C/\J ys W')\/(∃pre:List (jR C),cn pre <+:C/\Jx pre W')):Ending->World->Prop)
 rw[<-eR];have FA:Hid (∀v W' ys,cn ys=C->J ys W'->R (.returned v) W'):=h_ λv W' ys hv h=>by rw[eR];exact⟨⟨_,rfl⟩, .inl ⟨ys,hv,h⟩⟩
 have FB:Hid (∀v W' pre,cn pre <+:C->Jx pre W'->R (.returned v) W'):=h_ λv W' pre hp h=>by rw[eR];exact⟨⟨_,rfl⟩, .inr ⟨_,hp,h⟩⟩
 clear eR;have H0:=h_ h0;have HY:=h_ hY;have HX:=h_ hX;have HOB:=h_ hob;have HBW:=h_ hb;have HH:=h_ hH;have HT:=h_ hT;have HC12:=h_ (And.intro h1 h2);have CO:=h_ (kZ o s (hd:Int) W hH hE);rw[<-eL]at CO;have HE:=h_ hE;have HLF:Hid (L.length<=1000000):=h_ (by rw[eL,bJ,rm,fe];exact fO (gE _ _) hE.jX);have EL:=h_ eL;have EC:=h_ eC;have HPB:=h_ hp;clear h0 hY hX hob hb hH hT hE eL eC hp;refine callsIn_of_wp Tryz.func124 rfl trivial ?_ rfl;simp only[Tryz.ntmps124,tY,kq,qA,Nat.reduceAdd,Nat.reduceSub,M0,MZ,M7,M6,xK,xC]
 gi_wp2
 refine⟨trivial, ?_⟩;refine(callsIn_wide.2 CO.out).mono ?_;rintro e2 w2 ⟨Ag,c,rfl,hlc,_,hown,hsl,hb2⟩;obtain⟨A,eA0⟩:=x_ (some ⟨Ag,0,none⟩:Option Addr)
 rw[<-eA0]at hown hsl⊢;clear eA0;obtain⟨AA,eAA⟩:=x_ A
 rw[<-eAA]at hown hsl;have EAA:=h_ eAA;clear eAA;have HJ2:=h_ (r8 hJ H0.out hb2);have HB2:=h_ hb2;have HSL:=h_ hsl;have HLC:=h_ hlc;have HOW:=h_ hown;clear h1 h2 CO H0 hlc hown hsl hb2;obtain⟨pub,epb⟩:∃pub,s.pubs[hd]? =some pub:=⟨_,eH HPB.out⟩
 have hH2:=HH.out.below HB2.out;obtain⟨pb,po,epA⟩:=cG hH2.pubs (by intro e;have:=HPB.out;rw[e]at this;simp at this);have HQ:Hid (∀w',Below w2.heap.size w2 w'->w'.cell? ⟨b1,0,none⟩=some (.pointer (some ⟨o.hb,0,none⟩))/\w'.cell? ⟨b2,0,none⟩=some (.int .i64 (hd:Int))/\w'.cell? ⟨o.hb,5,none⟩=some (.slice (some ⟨pb,po,none⟩) s.pubs.length o.c)/\w'.cell? ⟨pb,po+hd,none⟩=some (.int .i64 pub)):=h_ λw' h=>by
  have h3:=hH2.below h;have h4:Below W.heap.size W w':=HB2.out.trans (h.mono HB2.out.size);have h5:=h3.bg.ag 5 _ rfl;have h6:=h3.pubs;rw[epA]at h5 h6;exact⟨by rw[h4.cell (World.block_lt_of_cell? W _ HC12.out.1)];exact HC12.out.1,by rw[h4.cell (World.block_lt_of_cell? W _ HC12.out.2)];exact HC12.out.2,h5,fi h6 epb⟩
 have hfw:PG L:=λe he=>by
  rw[EL.out]at he;obtain⟨t,ht,rfl⟩:=nS.1 he;have h1:=(dY _ _).mem_iff.1 ht;unfold j6 at h1;obtain⟨p,hp,rfl⟩:=nS.1 h1;have h2:=(PY.1 hp).1;have h3:fP s.aw p.1=p.2:=by unfold fP;rw[Mk.get_some HH.out.mp.nodup h2];rfl
  rw[h3];exact HE.out.ok p h2
 have CK:=h_ (fun(k:Nat) w' (h:Below w2.heap.size w2 w')=>uM AA c (L.take k) hd pub w' ((HSL.out.below h (aL _)).take k) (by simp;have:=HLF.out;omega) (by simp;have:=HLC.out;omega) (λe he=>hfw e (List.take_subset _ _ he)) (HT.out.below (HB2.out.trans (h.mono HB2.out.size)) (aL _)));have hpd:((hd:Nat):Int)<(s.pubs.length:Int):=by have:=HPB.out;omega
 have hpd0:(0:Int)<=((hd:Nat):Int):=by omega
 have EM:Hid (Ej L hd pub=if(iA (L.take (pV L)) hd pub).2≥0 then(iA (L.take (pV L)) hd pub).2.toNat else pV L):=h_ rfl;have EC2:Hid (C=L.take (Ej L hd pub)):=h_ (by rw[EC.out,EL.out];unfold bE fA;rw[BX,tZ,epb];rfl);clear hH2 epA epb hfw
 gi_wp2
 gi_loopw [5] (λv wr=> ∃k:Nat,v= .int .i64 (k:Int)/\k<=L.length/\Hid (jD L (L.length-k) k=pV L)/\wr=w2) (λv _=>(L.length:Int).toNat- (RowKit.intOf v).toNat)
 case atStart=>exact⟨0,rfl,gu _,h_ rfl,rfl⟩
 case round=>
  obtain⟨k,rfl,hk,HG,hw⟩:=hrel;subst hw;have HKL:=h_ hk;have hkb:(k:Int)+1<=9223372036854775807:=by have:=HLF.out;omega
  have hkc:∀a:Int,((k:Int)==a)=(a==(k:Int)):=λa=>by rw[Px];simp only[beq_iff_eq];exact eq_comm
  have hadr:∀ {j:Nat} {x:aV},L[j]? =some x->∃ab ao,A=some ⟨ab,ao,none⟩:=fun {j x} ex=>by
   obtain⟨ab,ao,e,_⟩:=HSL.out.at_ ex;exact⟨ab,ao,by rw[<-EAA.out];exact e⟩
  have hcel:∀ {j:Nat} {x:aV} {ab ao:Nat},A=some ⟨ab,ao,none⟩->L[j]? =some x->wr.cell? ⟨ab,ao+j*7+1,none⟩=some (.int .i64 x.seq):=fun {j x ab ao} e ex=>by
   obtain⟨_,_,e1,hc1⟩:=HSL.out.at_ ex;rw[EAA.out,e]at e1;cases e1
   have:=hc1 1 _ rfl
   rwa[<-Nat.add_assoc]at this
  have key:(Hid (pV L=k)/\((¬(k:Int)<(L.length:Int))\/(∃(x:aV) (ab ao:Nat),A=some ⟨ab,ao,none⟩/\(k:Int)<(L.length:Int)/\wr.cell? ⟨ab,ao+k*7+1,none⟩=some (.int .i64 x.seq)/\(x.seq==(k:Int))=false)\/(∃(x y:aV) (ab ao:Nat),A=some ⟨ab,ao,none⟩/\(k:Int)<(L.length:Int)/\wr.cell? ⟨ab,ao+k*7+1,none⟩=some (.int .i64 x.seq)/\(x.seq==(k:Int))=true/\wr.cell? ⟨ab,ao+(k+1)*7+1,none⟩=some (.int .i64 y.seq)/\((k:Int)+1==(L.length:Int))=false/\(k:Int)+1<(L.length:Int)/\(y.seq !=(k:Int))=false)))\/
    (Hid (k<L.length/\jD L (L.length- (k+1)) (k+1)=pV L)/\∃(x:aV) (ab ao:Nat),A=some ⟨ab,ao,none⟩/\(k:Int)<(L.length:Int)/\wr.cell? ⟨ab,ao+k*7+1,none⟩=some (.int .i64 x.seq)/\(x.seq==(k:Int))=true/\(((k:Int)+1==(L.length:Int))=true\/∃y:aV,wr.cell? ⟨ab,ao+(k+1)*7+1,none⟩=some (.int .i64 y.seq)/\((k:Int)+1==(L.length:Int))=false/\(k:Int)+1<(L.length:Int)/\(y.seq !=(k:Int))=true)):=by
   have hno: ¬Hw L k->Hid (pV L=k):=λh=>h_ (by rw[<-HG.out,Hx h])
   have hyes:Hw L k->Hid (k<L.length/\jD L (L.length- (k+1)) (k+1)=pV L):=λh=>h_ ⟨h.1,by
    have:=HG.out;rw[show L.length-k=(L.length- (k+1))+1 by have:=h.1;omega,uP h]at this;exact this⟩
   rcases pC hk with hkl|hkl
   ·obtain⟨x,ex⟩:∃x,L[k]? =some x:=⟨_,eH hkl⟩
    obtain⟨ab,ao,ea⟩:=hadr ex;by_cases hx:x.seq=(k:Int)
    ·by_cases h1:k+1=L.length
     ·exact .inr ⟨hyes ⟨hkl,by rw[ex];simp[hx], .inl h1⟩,x,ab,ao,ea,by omega,hcel ea ex,by simpa using hx, .inl (by simp;omega)⟩
     ·obtain⟨y,ey⟩:∃y,L[k+1]? =some y:=⟨_,eH (by omega)⟩
      by_cases hy:y.seq=(k:Int)
      ·exact .inl ⟨hno (by rintro⟨_,_,h|h⟩;exact h1 h;exact h (by rw[ey];simp[hy])), .inr (.inr ⟨x,y,ab,ao,ea,by omega,hcel ea ex,by simpa using hx,hcel ea ey,by simp;omega,by omega,by simpa using hy⟩)⟩
      ·exact .inr ⟨hyes ⟨hkl,by rw[ex];simp[hx], .inr (by rw[ey];simpa using hy)⟩,x,ab,ao,ea,by omega,hcel ea ex,by simpa using hx, .inr ⟨y,hcel ea ey,by simp;omega,by omega,by simpa using hy⟩⟩
    ·exact .inl ⟨hno (by rintro⟨_,h,_⟩;rw[ex]at h;simp at h;exact hx h), .inr (.inl ⟨x,ab,ao,ea,by omega,hcel ea ex,by simpa using hx⟩)⟩
   ·exact .inl ⟨hno (by rintro⟨h,_⟩;omega), .inl (by omega)⟩
  clear HG hk hadr hcel;rcases key with⟨HN,hki|⟨x,ab,ao,rfl,hki,c1,q1⟩|⟨x,y,ab,ao,rfl,hki,c1,q1,c2,r1,hki2,q2⟩⟩|⟨HY2,x,ab,ao,rfl,hki,c1,q1,r1|⟨y,c2,r1,hki2,q2⟩⟩
  rotate_left 3;iterate 2
   ·gi_wp2
    go_roundw
    case rel=>exact⟨k+1,rfl,HY2.out.1,h_ HY2.out.2,by trivial⟩
    case measure=>have:=HY2.out.1;simp[RowKit.intOf];omega
  all_goals
   have hkl:k<=L.length:=by have:=Lr L;rw[HN.out]at this;exact this
   have hkc:(k:Int)<=(c:Int):=by have:=HLC.out;omega
   have hk0:(0:Int)<=(k:Int):=by omega
   have htk:(L.take k).length=k:=by rw[jQ];omega
   have CK2:=h_ (CK.out k);rw[htk]at CK2;have EM2:=h_ EM.out;rw[HN.out]at EM2;obtain⟨cr,ecr⟩:=x_ (iA (L.take k) hd pub)
   have hat:=Ot (L.take k) hd pub;rw[<-ecr]at CK2 EM2 hat;rw[htk]at hat;obtain⟨ce,ca⟩:=cr;clear ecr htk CK EM HN
   gi_wp2
   rw[<-EAA.out];refine Free.gJ (.inl rfl) 17 [(11, .det (.tuple #[.int .i64 ce, .int .i64 ca]))] (λw'=>Below wr.heap.size wr w') (by kernel_rfl) (by kernel_rfl) (by kernel_rfl) (Free.aW (λj mk r hf=>by simp only[Free.find]at hf;repeat' (first|cases hf|split at hf))) (Below.refl _ _).drew (λ_ _ h g=>h.trans (Below.mono g h.size)) ?_;simp only[eJ,dT];iterate 17 (first|(apply Free.aC (Free.wq rfl) rfl;(intro w' hB hA;refine Free.au (f:=27) (args:= #[.slice AA k c, .int .i64 (hd:Int), .int .i64 pub]) (by clear hB hA;go_simp<;>rfl) ?_;refine(CK2.out w' hB).mono ?_;rintro e w3 ⟨rfl,hb3⟩;exact⟨_,rfl,hb3,rfl⟩);simp only[Pt])|(apply Free.ae (Free.wq rfl) rfl;(intro w' hB hA;cases HQ.out w' hB;clear hA hB;go_light;go_simp<;>rfl);(try simp only[Pt])))
   apply Free.ax;intro w5 hw5 _ _;simp only[fm,fo];have hmm:∃m:Nat,Ej L hd pub=m/\m<=k/\((ca= -1/\m=k)\/ca=(m:Int)):=by
    have e:=EM2.out;rcases hat with h|⟨i,hi,h⟩
    ·exact⟨k,by rw[e,if_neg (by rw[h];decide)],aL _, .inl ⟨h,rfl⟩⟩
    ·exact⟨i,by rw[e,if_pos (by rw[h];omega),h,tZ],by omega, .inr h⟩
   obtain⟨m,em,hmk,hcs⟩:=hmm;have eC:=EC2.out;rw[em]at eC;have Ta:C.length=m:=by rw[eC,jQ];omega
   have Tb:∀ {j:Nat} {x:aV},j<m->L[j]? =some x->C[j]? =some x:=fun {j x} hj h=>by rw[eC,qC,if_pos hj];exact h
   have hmc:(m:Int)<=(c:Int):=by omega
   have hm0:(0:Int)<=(m:Int):=by omega
   have hb5:Below W.heap.size W w5:=HB2.out.trans (hw5.mono HB2.out.size);have hsi:Qi X b 7 aK AA L w5:=by
    refine⟨HSL.out.below hw5 (aL _),λhne j e=> ?_⟩;obtain⟨h1,h2⟩:=HOW.out;rcases h2 with⟨h2,h3⟩|⟨g,cap,cur,h2,h3,h4,_⟩
    ·exact absurd (Ky.1 h3) hne
    ·injection h2 with e1 _ _;rw[e1]at e;have e':g=j:=by simpa using e
     subst e';have hlt:g<wr.heap.size:=(iS.1 h4).1;refine⟨nX hlt hw5.size,⟨cur,_,_,by rw[hw5.block _ hlt];exact h4⟩,λhx=>by have:=HX.out _ hx;omega, ?_⟩;rw[gU (hb5.block b HBW.out),HOB.out];simp
   have HSI:=h_ hsi;have HJ5:=h_ (r8 hJ HJ2.out hw5);have HB5:=h_ (nX HBW.out hb5.size);have HML:Hid (m<=L.length):=h_ (by omega);have HCM:=h_ Ta;have HCX:=h_ (λj x h1 h2=>Tb (j:=j) (x:=x) h1 h2);have hmb:(m:Int)+1<=9223372036854775807:=by have:=HLF.out;omega
   clear hat em eC Ta Tb hb5 hsi hw5 EM2 CK2;rcases hcs with⟨rfl,rfl⟩|rfl;all_goals
    gi_wp2
    gi_loopw [67] (λv wq=> ∃(j:Nat) (pre:List (jR C)),v= .int .i64 (j:Int)/\j<=m/\Hid (cn pre=C.take j)/\J pre wq/\Qi X b 7 aK AA L wq/\b<wq.heap.size) (λv _=>m- (RowKit.intOf v).toNat)
    case atStart=>exact⟨0,[],rfl,gu _,h_ rfl,HJ5.out,HSI.out,HB5.out⟩
    case round=>
     clear HJ5 HSI HB5;obtain⟨j,pre,rfl,hj,HPR,hJ1,hS1,hbq⟩:=hrel;have HJ:=h_ hJ1;have HS:=h_ hS1;have HBQ:=h_ hbq;clear hJ1 hS1 hbq;rcases pC hj with hjl|hjl
     ·have hji:(j:Int)<(m:Int):=by omega
      obtain⟨x,ex⟩:∃x,L[j]? =some x:=⟨_,eH (by have:=HML.out;omega)⟩
      obtain⟨ab,ao,hA⟩:=cG HS.out.sl (by intro e;rw[e]at ex;simp at ex);have hxC:=HCX.out j x hjl ex;have HXC:Hid (x∈C):=h_ (ue hxC);obtain⟨cs,ecs⟩:=x_ (aK x)
      have hcl:cs.length=7:=by rw[ecs];rfl
      have hc1:∀u∈cs,u.oneCell'=true:=by rw[ecs];exact cm x
      have hrg:wr.rangeAt ab (ao+j*7) cs:=by have h:=HS.out.sl;rw[hA]at h;rw[ecs];exact dq h ex
      have HMR:=h_ hrg;obtain⟨W6,e6⟩:=x_ (wr.alloc (.cells cs.toArray 42))
      have hb6:Below wr.heap.size wr W6:=by rw[e6];exact(Below.refl _ _).alloc (aL _) _
      have HM6:Hid (W6.rangeAt wr.heap.size 0 cs):=h_ (by rw[e6];exact rg_of (ay.new wr cs 42));have HI:=h_ (cE cs hcl);have HC1:=h_ hc1;have HCL:=h_ hcl;have E6:=h_ e6;have hlen:pre.length<C.length:=by rw[<-mR,HPR.out,jQ,HCM.out];omega
      obtain⟨fn,tmps,assign,body,hy,hR⟩:=HY.out pre ⟨x,HXC.out⟩ W6 (r8 hJ HJ.out hb6) hlen;dsimp only[Cy]at hy;rw[<-ecs]at hy;have HR:=h_ hR;have HS6:=h_ (HS.out.bD (ku.below hb6 HBQ.out));have HBQ6:=h_ (nX HBQ.out hb6.size);have HPR2:Hid (cn (pre++ [⟨x,HXC.out⟩])=C.take (j+1)):=h_ (by rw[ie,HPR.out,zX,hxC];rfl);have hjb:(j:Int)+1<=9223372036854775807:=by omega
      subst hA;clear ex hxC ecs hcl hc1 hrg e6 hb6 hR hlen HJ HS HBQ hj
      gi_wp2_with (first
       |(refine lK (.tmp 69) ?_;refine kL (.inl rfl) rfl 42 (.tmp 69) rfl ab (ao+j*7) rfl cs _ HMR.out Tryz.underlying42 rfl HI.out ?_)
       |(refine jU (.tmp 9) ?_;refine jt (.inl rfl) HI.out HC1.out 9 70 wr W6 wr.heap.size rfl E6.out _ rfl rfl rfl rfl _ (by simp[HCL.out]) ?_;simp only[Pt])
       |(refine lK (.tmp 9) ?_;refine kL (.inl rfl) rfl 42 (.tmp 9) rfl wr.heap.size 0 rfl cs _ HM6.out Tryz.underlying42 rfl HI.out ?_))
      refine HR.out.mono ?_;rintro e3 wy (⟨rfl,hJ3,hk3⟩|⟨rfl,hJx3⟩)
      ·have HJ3:=h_ hJ3;have HS3:=h_ (HS6.out.bD hk3);have HB3:=h_ (nX HBQ6.out hk3.size);clear hJ3 hk3 HR hy HS6 HBQ6
       gi_wp2
       go_roundw
       case rel=>exact⟨j+1,_,rfl,hjl,HPR2,HJ3.out,HS3.out,HB3.out⟩
       case measure=>simp[RowKit.intOf];omega
      ·have G:=h_ (FB.out (.tuple #[]) wy _ (by rw[HPR2.out];exact List.take_prefix _ _) hJx3);clear hJx3 HR hy HS6 HBQ6
       gi_wp2
       first
        |exact G.out
        |exact bodyPost_ret (results_none rfl _ _ _) rfl G.out
     ·have hji: ¬(j:Int)<(m:Int):=by omega
      have G:=h_ (FA.out (.tuple #[]) wr pre (by rw[HPR.out,np (by rw[HCM.out];omega)]) HJ.out);clear HJ HS HBQ
      gi_wp2
      first
       |exact G.out
       |(go_end0;exact G.out)
       |exact bodyPost_ret (results_none rfl _ _ _) rfl G.out
end Go.Proofs.YtkmbmfengcdmoaaGreatDoor
namespace Go.Proofs.YtkmbmfengcdmoaaGreatDoor
open Go.RowKit Go.ay Go.Jn Go.Dk Go.Ho Go.Opn Go.Maps Go.WideMaps Go.Apl Go.Mg Go.Rf Go.Lib

theorem yn(m:Nat)(hm:1<=m)(b b1 b2:Nat)(X:Nat->Prop)(o:Lo)(s:HS)(hd:Nat)(C:List aV)(eC:C=bE s hd)(w:World)(hb:b<w.heap.size)(hX:∀k,X k->k<w.heap.size)(hob:iI b w=none)
  (h1:w.cell? ⟨b1,0,none⟩=some (.pointer (some ⟨o.hb,0,none⟩))) (h2:w.cell? ⟨b2,0,none⟩=some (.int .i64 (hd:Int))) (hH:HR w o s) (hE:Nc s.aw) (hp:hd<s.pubs.length) (hT:cB w):
  SeqStopsK Fence.wide m Tryz.prog 124 #[.pointer (some ⟨b1,0,none⟩), .pointer (some ⟨b2,0,none⟩)] (Cy (C:=C)) (ku X b) (λys=>cn ys=C) (λpre=>cn pre <+:C) C.length w:=λl J Jx W hW hJ _ hY h0=>
 ym m hm l b b1 b2 X o s hd _ C rfl eC J Jx _ hJ hY W (nX hb hW.size) (λk hk=>nX (hX k hk) hW.size) (by rw[gU (hW.block b hb)];exact hob)
  (by rw[hW.cell (World.block_lt_of_cell? w _ h1)];exact h1) (by rw[hW.cell (World.block_lt_of_cell? w _ h2)];exact h2) (hH.below hW) hE hp (hT.below hW (aL _)) h0
theorem JL{g:Operand}{p:Tmp}{assign body:Code}{Q:Exit->Act->World->Prop}{a:Act}{w:World}(b b1 b2:Nat)(X:Nat->Prop)(o:Lo)(s:HS)(hd:Nat)(C:List aV)(eC:C=bE s hd)
  (hg:a.eval g= .func (.func 124) #[] #[.pointer (some ⟨b1,0,none⟩), .pointer (some ⟨b2,0,none⟩)]) (hb:b<w.heap.size) (hX:∀k,X k->k<w.heap.size) (hob:iI b w=none)
  (h1:w.cell? ⟨b1,0,none⟩=some (.pointer (some ⟨o.hb,0,none⟩))) (h2:w.cell? ⟨b2,0,none⟩=some (.int .i64 (hd:Int))) (hH:HR w o s) (hE:Nc s.aw) (hp:hd<s.pubs.length) (hT:cB w)
  (I:List (jR C)->World->Prop) (hI:OwnFrom w.heap.size I) (h0:I [] w) (Ax:jR C->Act->World->Prop) (hAx:∀x a',OwnFrom w.heap.size (fun(_:Unit) W=>Ax x a' W))
  (hassign:∀(l:Nat) (pre:List (jR C)) (x:jR C) (W:World) (K:Act->World->Prop),I pre W->(∀a' W',KeepsFrom w.heap.size W W'->ku X b W W'->I pre W'->Ax x a' W'->K a' W')->
   assign.wpIn (Fence.wide.inRound l) 2 Tryz.prog (Exit.then K (λ_ _ _=>False)) {tmps:=a.tmps.setIfInBounds p (.agg (aK x.1).toArray),defers:= []} W)
  (hbody:∀(l:Nat) (pre:List (jR C)) (x:jR C) (a':Act) (W:World),w.heap.size<=l->(∃r,W.heap[l]? =some (.loop r))->I pre W->Ax x a' W->pre.length<C.length->body.wpIn (Fence.wide.inRound l) 2 Tryz.prog (ownPostG w.heap.size (ku X b) I (λ_ _ _=>False) (pre++ [x]) W) a' W)
  (hdone:∀(D:Nat) (xs:List (jR C)) (W:World),w.heap.size<=D->cn xs=C->I xs W->W.heap[D]? =some (.deferred (some []))->Q .normal {a with defers:= {target:= .collected D,args:= #[]}::a.defers} W):
  (Code.rangeFunc g #[p] assign body).wp Tryz.prog Q a w:=
 (wpIn_wide (n:=4)).1 (wpIn_rangeFunc_ownH (α:=jR C) (encs:=Cy) (Kp:=ku X b) rfl (by decide) hg trivial (enters_of Tryz.func124 (by kernel_rfl) rfl) (yn 3 (by decide) b b1 b2 X o s hd C eC w hb hX hob h1 h2 hH hE hp hT) (λh g=>h.trans g)
  (λw' l o o' hle ho hnc _=>ku.book w' l o o' (by omega) ho hnc) (Below.refl _ _) (λ_=>rfl) I (λ_ _ _=>False) hI (λ_ _ _ _ _ h _ _=>h.elim) h0 Ax hAx
  (λl pre x W K hi hk=>by simpa using hassign l pre x W K hi hk) hbody hdone (λ_ _ _ _ _ _ h=>h.elim))
theorem Mz{g:Operand}{p:Tmp}{assign body:Code}{Q:Exit->Act->World->Prop}{a:Act}{w:World}(b b1 b2:Nat)(X:Nat->Prop)(o:Lo)(s:HS)(hd:Nat)(C:List aV)(eC:C=bE s hd)
  (hg:a.eval g= .func (.func 124) #[] #[.pointer (some ⟨b1,0,none⟩), .pointer (some ⟨b2,0,none⟩)]) (hb:b<w.heap.size) (hX:∀k,X k->k<w.heap.size) (hob:iI b w=none)
  (h1:w.cell? ⟨b1,0,none⟩=some (.pointer (some ⟨o.hb,0,none⟩))) (h2:w.cell? ⟨b2,0,none⟩=some (.int .i64 (hd:Int))) (hH:HR w o s) (hE:Nc s.aw) (hp:hd<s.pubs.length) (hT:cB w)
  (I:List (jR C)->World->Prop) (hI:OwnFrom w.heap.size I) (h0:I [] w) (F:jR C->Act)
  (hassign:∀(l:Nat) (pre:List (jR C)) (x:jR C) (W:World) (K:Act->World->Prop),I pre W->K (F x) W->assign.wpIn (Fence.wide.inRound l) 2 Tryz.prog (Exit.then K (λ_ _ _=>False)) {tmps:=a.tmps.setIfInBounds p (.agg (aK x.1).toArray),defers:= []} W)
  (hbody:∀(l:Nat) (pre:List (jR C)) (x:jR C) (W:World),I pre W->pre.length<C.length->body.wpIn (Fence.wide.inRound l) 2 Tryz.prog (ownPostG w.heap.size (ku X b) I (λ_ _ _=>False) (pre++ [x]) W) (F x) W)
  (hdone:∀(D:Nat) (xs:List (jR C)) (W:World),w.heap.size<=D->cn xs=C->I xs W->W.heap[D]? =some (.deferred (some []))->Q .normal {a with defers:= {target:= .collected D,args:= #[]}::a.defers} W):
  (Code.rangeFunc g #[p] assign body).wp Tryz.prog Q a w:=
 JL b b1 b2 X o s hd C eC hg hb hX hob h1 h2 hH hE hp hT I hI h0 (λx a' _=>a'=F x) (λ_ _ _ _ _ _ h _ _=>h)
  (λl pre x W K hi hk=>hassign l pre x W K hi (hk _ _ (KeepsFrom.refl _ _) (ku.refl _) hi rfl)) (λl pre x a' W _ _ hi ha hl=>by subst ha;exact hbody l pre x W hi hl) hdone
theorem Du{g:Operand}{p:Tmp}{assign body:Code}{Q:Exit->Act->World->Prop}{a:Act}{w:World}(b b1 b2:Nat)(X:Nat->Prop)(o:Lo)(s:HS)(hd:Nat)(C:List aV)(eC:C=bE s hd)
  (hg:a.eval g= .func (.func 124) #[] #[.pointer (some ⟨b1,0,none⟩), .pointer (some ⟨b2,0,none⟩)]) (hb:b<w.heap.size) (hX:∀k,X k->k<w.heap.size) (hob:iI b w=none)
  (h1:w.cell? ⟨b1,0,none⟩=some (.pointer (some ⟨o.hb,0,none⟩))) (h2:w.cell? ⟨b2,0,none⟩=some (.int .i64 (hd:Int))) (hH:HR w o s) (hE:Nc s.aw) (hp:hd<s.pubs.length) (hT:cB w)
  (I:List (jR C)->World->Prop) (hI:OwnFrom w.heap.size I) (h0:I [] w) (hIb:∀pre W W',I pre W->Below W.heap.size W W'->I pre W') (hbI:∀pre W,I pre W->b<W.heap.size) (F:jR C->Nat->Act)
  (hassign:∀(l:Nat) (pre:List (jR C)) (x:jR C) (W:World) (K:Act->World->Prop),I pre W->K (F x W.heap.size) (W.alloc (.cells (aK x.1).toArray 42))->assign.wpIn (Fence.wide.inRound l) 2 Tryz.prog (Exit.then K (λ_ _ _=>False)) {tmps:=a.tmps.setIfInBounds p (.agg (aK x.1).toArray),defers:= []} W)
  (hbody:∀(l:Nat) (pre:List (jR C)) (x:jR C) (ab:Nat) (W:World),I pre W->ay W ab (aK x.1) 42->pre.length<C.length->body.wpIn (Fence.wide.inRound l) 2 Tryz.prog (ownPostG w.heap.size (ku X b) I (λ_ _ _=>False) (pre++ [x]) W) (F x ab) W)
  (hdone:∀(D:Nat) (xs:List (jR C)) (W:World),w.heap.size<=D->cn xs=C->I xs W->W.heap[D]? =some (.deferred (some []))->Q .normal {a with defers:= {target:= .collected D,args:= #[]}::a.defers} W):
  (Code.rangeFunc g #[p] assign body).wp Tryz.prog Q a w:=
 JL b b1 b2 X o s hd C eC hg hb hX hob h1 h2 hH hE hp hT I hI h0 (λx a' W=> ∃ab,a'=F x ab/\ay W ab (aK x.1) 42)
  (λx a' _ w w' row ⟨ab,e,hk⟩ hg hr=>⟨ab,e,hk.bG (hg.block _ hk.lt (λe=>by
   obtain⟨_,oo,ho,hc⟩:=hr _ e.symm;rw[show w.heap[ab]? =_ from hk]at ho;cases ho;cases hc))⟩)
  (λl pre x W K hi hk=>by
   have hb':Below W.heap.size W (W.alloc (.cells (aK x.1).toArray 42)):=(Below.refl _ _).alloc (aL _) _;exact hassign l pre x W K hi (hk _ _ ((gC hb').from _) (ku.below hb' (hbI pre W hi)) (hIb _ _ _ hi hb') ⟨_,rfl,ay.new W _ _⟩)) (λl pre x a' W _ _ hi ⟨ab,ha,hk⟩ hl=>by subst ha;exact hbody l pre x ab W hi hk hl) hdone
end Go.Proofs.YtkmbmfengcdmoaaGreatDoor
