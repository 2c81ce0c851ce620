/- Package house: a range over the entries that count. Condition: the house lies in memory; the variables of digest and strconv hold their numbers. -/
import Derived.Test.YtkmbmfengcdmoaaGreatDoorZAW
import Derived.Test.YtkmbmfengcdmoaaGreatDoorZBD
import Derived.Test.YtkmbmfengcdmoaaGreatDoorZAT
import Derived.Test.YtkmbmfengcdmoaaGreatDoorZAL
import Derived.RangeFuncNested
import Derived.RangeFuncBox
set_option linter.all false
set_option maxRecDepth 100000
namespace Go.Rf
open Go Go.RowKit Go.Opn
def iI(b:Nat)(w:World):Option Nat:=match w.cell? ⟨b,0,none⟩with
 |some (.slice (some a) _ _)=>some a.block
 |_=>none
structure ku (X:Nat->Prop) (b:Nat) (w w':World):Prop where
 size:w.heap.size<=w'.heap.size
 bD:∀k,k<w.heap.size->(∃c t f,w.heap[k]? =some (.cells c t f))-> ¬X k->iI b w≠some k->w'.heap[k]? =w.heap[k]?
 own:iI b w'=iI b w\/∃k,iI b w'=some k/\w.heap.size<=k
variable {X:Nat->Prop} {b:Nat}
theorem ku.refl(w:World):ku X b w w:=⟨aL _,λ_ _ _ _ _=>rfl, .inl rfl⟩
theorem ku.trans{u v w:World}(h:ku X b u v)(g:ku X b v w):ku X b u w:=by
 refine⟨fO h.size g.size,λk n i f o=> ?_, ?_⟩
 ·have c:=h.bD k n i f o;rw[g.bD k (nX n h.size) (by rw[c];exact i) f ?_,c];rcases h.own with e|⟨j,e,l⟩
  ·rw[e];exact o
  ·rw[e];intro d;injection d with d;omega
 ·rcases g.own with e|⟨j,e,l⟩
  ·rw[e];exact h.own
  ·exact .inr ⟨j,e,fO h.size l⟩
theorem Ht{w:World}{a:Addr}{v:Value}(h:w.cell? a=some v):∃c t f,w.heap[a.block]? =some (.cells c t f):=by
 unfold World.cell? at h;split at h
 ·rename_i c t f e;exact⟨c,t,f,e⟩
 ·cases h
theorem gU{w w':World}(h:w'.heap[b]? =w.heap[b]?):iI b w'=iI b w:=by unfold iI;rw[World.cell?_of_block (a:=⟨b,0,none⟩) h]
theorem ku.book(W:World)(l:Nat)(o o':Obj)(j:l≠b)(d:W.heap[l]? =some o)(i:o.isCells=false):ku X b W (W.putObj l o'):=by
 have n:(W.putObj l o').heap.size=W.heap.size:=by simp[World.putObj]
 refine⟨by omega,λk _ h _ _=>World.putObj_heap_other (λg=> ?_), .inl (gU (World.putObj_heap_other (nq j)))⟩;obtain⟨c,t,f,e⟩:=h;subst g;rw[e]at d;cases d;cases i
theorem ku.below{w w':World}(h:Below w.heap.size w w')(c:b<w.heap.size):ku X b w w':=
 ⟨h.size,λk d _ _ _=>h.block k d, .inl (gU (h.block b c))⟩
theorem jw{α:Type}{w w':World}{f:Nat}{enc:α->List Value}{A:Option Addr}{es:List α}(h:SL w f enc A es)(n:∀k,A.map (·.block)=some k->w'.heap[k]? =w.heap[k]?):SL w' f enc A es:=
 ⟨λo=>by
  obtain⟨c,d,g,j⟩:=h.cells o;exact⟨c,d,g,λi e l p u q=>by rw[World.cell?_of_block (a:=⟨c,d+(i*f+p),none⟩) (n c (by rw[g];rfl))];exact j i e l p u q⟩⟩
end Go.Rf
namespace Go.Proofs.YtkmbmfengcdmoaaGreatDoor
open Go.RowKit Go.ay Go.Opn Go.Rf

section
variable {F:Fence} {m:Nat} {P:Program} {ops:Array Oper} {rest:List Oper} {a:Act} {Q:Exit->Act->World->Prop}
theorem lK(x:Operand){t:TypeId}{d:Option Tmp}{ty:TypeId}{e:String}{c:Array Edge}{g:Option (Nat×Bool)}{w:World}(h:wpListIn F m P ops Q (⟨d, .load t x,ty,e,c,g⟩::rest) a w):wpListIn F m P ops Q (⟨d, .load t x,ty,e,c,g⟩::rest) a w:=h
theorem jU(x:Operand){t:TypeId}{y:Operand}{d:Option Tmp}{ty:TypeId}{e:String}{c:Array Edge}{g:Option (Nat×Bool)}{w:World}(h:wpListIn F m P ops Q (⟨d, .store t x y,ty,e,c,g⟩::rest) a w):wpListIn F m P ops Q (⟨d, .store t x y,ty,e,c,g⟩::rest) a w:=h
theorem Hi(x:Operand){t:TypeId}{n:Nat}{d:Option Tmp}{ty:TypeId}{e:String}{c:Array Edge}{g:Option (Nat×Bool)}{w:World}(h:wpListIn F m P ops Q (⟨d, .buildSlice t n #[(0,x)],ty,e,c,g⟩::rest) a w):wpListIn F m P ops Q (⟨d, .buildSlice t n #[(0,x)],ty,e,c,g⟩::rest) a w:=h
theorem jM(d:F=Fence.wide\/∃g,F=Fence.wide.inRound g){w:World}{o:Oper}(f:o.guard=none)(e:∀c,o.op≠ .defer c)(h:o.wp P a w (wpListIn F m P ops Q rest) (λ_ _ _=>False)):wpListIn F m P ops Q (o::rest) a w:=by unfold wpListIn;rw[if_pos (by simp[Region.wanted,f])];exact Free.O2 d e (λ_ _ h=>h) h
theorem iZ(d:F=Fence.wide\/∃g,F=Fence.wide.inRound g){w w':World}{o:Oper}{v:Value}(f:o.guard=none)(e:∀c,o.op≠ .defer c)(h:(execOp a.eval o).run P w= .ok (.value v) w')(k:wpListIn F m P ops Q rest (a.put o.dst v) w'):wpListIn F m P ops Q (o::rest) a w:=
 jM d f e (by unfold Oper.wp;rw[h];exact k)
theorem kL(j:F=Fence.wide\/∃q,F=Fence.wide.inRound q){e:Oper}{w:World}(g:e.guard=none)(ty:TypeId)(x:Operand)(i:e.op= .load ty x)(b o:Nat)(p:a.eval x= .pointer (some ⟨b,o,none⟩))(cs:List Value)(d:TypeDesc)(f:w.rangeAt b o cs)
  (n:P.underlying ty=some d) (k:d.isRow=true) (l:(P.info? ty).map (·.size)=some cs.length) (h:wpListIn F m P ops Q rest (a.put e.dst (.agg cs.toArray)) w):wpListIn F m P ops Q (e::rest) a w:=
 jM j g (by rw[i];exact λc f=>by cases f) (wp_load_mid ty x i b o p cs d f n k l h)
theorem uu(d:F=Fence.wide\/∃g,F=Fence.wide.inRound g){w:World}{o:Oper}(f:Region.wanted o (yielded ops a.tmps)=true)(e:∀c,o.op≠ .defer c)(h:o.wp P a w (wpListIn F m P ops Q rest) (λ_ _ _=>False)):wpListIn F m P ops Q (o::rest) a w:=by unfold wpListIn;rw[if_pos f];exact Free.O2 d e (λ_ _ h=>h) h
theorem yK(i:F=Fence.wide\/∃q,F=Fence.wide.inRound q){e:Oper}{w:World}(n:Region.wanted e (yielded ops a.tmps)=true)(ty:TypeId)(x:Operand)(g:e.op= .load ty x)(b o:Nat)(p:a.eval x= .pointer (some ⟨b,o,none⟩))(cs:List Value)(d:TypeDesc)(f:w.rangeAt b o cs)
  (l:P.underlying ty=some d) (j:d.isRow=true) (k:(P.info? ty).map (·.size)=some cs.length) (h:wpListIn F m P ops Q rest (a.put e.dst (.agg cs.toArray)) w):wpListIn F m P ops Q (e::rest) a w:=
 uu i n (by rw[g];exact λc f=>by cases f) (wp_load_mid ty x g b o p cs d f l j k h)
theorem jt(l:F=Fence.wide\/∃w,F=Fence.wide.inRound w){T:TypeId}{cs:List Value}(p:(P.info? T).map (·.size)=some cs.length)(f:∀v∈cs,v.oneCell'=true)(s t:Nat)(e h:World)(b:Nat)(i:b=e.heap.size)(k:h=e.alloc (.cells cs.toArray T))
  (o:Oper) (g:o.guard=none) (j:o.op= .store T (.tmp s) (.tmp t)) (r:a.eval (.tmp s)= .pointer (some ⟨b,0,none⟩)) (u:a.eval (.tmp t)= .agg cs.toArray) (ju:Array Value) (d:ju.size=cs.length)
  (q:wpListIn F m P ops Q rest (a.put o.dst undef) h):wpListIn F m P ops Q (o::rest) a (e.alloc (.cells ju T)):=by
 refine jM l g (by rw[j];exact λc n=>by cases n) (wp_store_row T (.tmp s) (.tmp t) j b cs.toArray r u T ju (by rw[i];exact heap_alloc_new e _) (by rw[p];simp) (by rw[d];simp) (all_oneCell_toArray f) ?_);rw[i,World.setRow_alloc_new, <-k];exact q
end
structure Qi {α:Type} (X:Nat->Prop) (b:Nat) (sz:Nat) (enc:α->List Value) (A:Option Addr) (l:List α) (w:World):Prop where
 sl:SL w sz enc A l
 off:l≠ []->∀k,A.map (·.block)=some k->k<w.heap.size/\(∃c t f,w.heap[k]? =some (.cells c t f))/\ ¬X k/\iI b w≠some k
theorem Mh{X:Nat->Prop}{b k:Nat}{w w':World}(h:ku X b w w')(g:k<w.heap.size)(d:iI b w≠some k):iI b w'≠some k:=by
 rcases h.own with e|⟨j,e,f⟩
 ·rw[e];exact d
 ·rw[e];intro c;injection c with c;omega
theorem Qi.bD{α:Type}{X:Nat->Prop}{b n:Nat}{enc:α->List Value}{A:Option Addr}{l:List α}{w w':World}(h:Qi X b n enc A l w)(d:ku X b w w'):Qi X b n enc A l w':=by
 by_cases j:l= []
 ·subst j;exact⟨SL.nil,λh=>absurd rfl h⟩
 ·refine⟨jw h.sl λk e=> ?_,λ_ k e=> ?_⟩
  ·obtain⟨c,f,g,i⟩:=h.off j k e;exact d.bD k c f g i
  ·obtain⟨c,f,g,i⟩:=h.off j k e;exact⟨nX c d.size,by rw[d.bD k c f g i];exact f,g,Mh d c i⟩
open Go.Jn Go.Dk Go.Ho Go.Maps Go.WideMaps Go.Apl Go.Mg Go.Lib
attribute [local go_sem] Oper.semAt_some

theorem lP(c:Nat)(house:Int)(w:World):
  Calls Tryz.prog 80 #[.pointer (some ⟨c,0,none⟩), .int .i64 house] w λe w'=>e= .returned (.func (.func 124) #[] #[.pointer (some ⟨w.heap.size,0,none⟩), .pointer (some ⟨w.heap.size+1,0,none⟩)])/\w'=(w.alloc (.cells #[.pointer (some ⟨c,0,none⟩)] 50)).alloc (.cells #[.int .i64 house] 3):=by
 have d:∀(fn:Fn) (first cap:Array Value) (w:World),(Instr.makeFunc fn first cap).run Tryz.prog w= .ok (.func fn first cap) w:=λ_ _ _ _=>rfl
 go_enter Tryz.func80,Tryz.ntmps80;go_wp2_with fail;go_ret;exact⟨rfl,rfl⟩
abbrev jR (C:List aV):= {x:aV // x∈C}
def cn{C:List aV}(l:List (jR C)):List aV:=l.map (·.1)
theorem ie{C:List aV}(l:List (jR C))(x:jR C):cn (l++ [x])=cn l++ [x.1]:=by simp[cn]
theorem mR{C:List aV}(l:List (jR C)):(cn l).length=l.length:=by simp[cn]
abbrev Cy {C:List aV} (x:jR C):Array Value:= #[.agg (aK x.1).toArray]
def Hw(l:List aV)(n:Nat):Prop:=n<l.length/\(l[n]?.map (·.seq))=some (n:Int)/\(n+1=l.length\/(l[n+1]?.map (·.seq))≠some (n:Int))
theorem uP{l:List aV}{k n:Nat}(h:Hw l n):jD l (k+1) n=jD l k (n+1):=by rw[jD];exact if_pos h
theorem Hx{l:List aV}{k n:Nat}(h: ¬Hw l n):jD l k n=n:=by
 cases k with
 |zero=>rfl
 |succ k=>rw[jD];exact if_neg h
theorem yi{l:List aV}:∀(k n:Nat),n<=l.length->jD l k n<=l.length
 |0,n,h=>h
 |k+1,n,h=>by
  rw[jD];split
  ·rename_i q;exact yi k (n+1) q.1
  ·exact h
theorem Lr(l:List aV):pV l<=l.length:=yi _ _ (gu _)
theorem yg{l:List aV}{house pub:Int}:∀(n k:Nat),(gi l house pub n k).2= -1\/∃i:Nat,i<l.length/\(gi l house pub n k).2=(i:Int)
 |0,k=> .inl rfl
 |n+1,k=>by
  rw[gi];split
  ·exact .inl rfl
  ·rename_i e c;split
   ·exact yg n (k+1)
   ·exact .inr ⟨k,(jS.1 c).1,rfl⟩
theorem Ot(l:List aV)(house pub:Int):(iA l house pub).2= -1\/∃i:Nat,i<l.length/\(iA l house pub).2=(i:Int):=by
 unfold iA;split
 ·exact yg _ _
 ·exact .inl rfl
set_option maxHeartbeats 2000000 in
theorem ym(n:Nat)(hn:1<=n)(l b b1 b2:Nat)(X:Nat->Prop)(o:Lo)(s:HS)(E:Nat)(L C:List aV)(eL:L=bJ s.aw E)(eC:C=bE s E)(J Jx:List (jR C)->World->Prop)(B:Nat)(hJ:AbidesFrom B J)
  (hY:∀d x W,J d W->d.length<C.length->YieldAt Fence.wide (n-1) Tryz.prog l (Cy x) W λe I=>
   (e= .returned (.bool true)/\J (d++ [x]) I/\ku X b W I)\/(e= .returned (.bool false)/\Jx (d++ [x]) I))
  (W:World) (hb:b<W.heap.size) (hX:∀k,X k->k<W.heap.size) (rt:iI b W=none) (Y:W.cell? ⟨b1,0,none⟩=some (.pointer (some ⟨o.hb,0,none⟩))) (T:W.cell? ⟨b2,0,none⟩=some (.int .i64 (E:Int)))
  (hH:HR W o s) (hE:Nc s.aw) (hp:E<s.bF.length) (hT:cB W) (h0:J [] W):
  CallsIn Fence.wide n Tryz.prog 124 #[.func (.yield l) #[] #[], .pointer (some ⟨b1,0,none⟩), .pointer (some ⟨b2,0,none⟩)] W λe I=>(∃v,e= .returned v)/\
   ((∃ys:List (jR C),cn ys=C/\J ys I)\/(∃d:List (jR C),cn d <+:C/\Jx d I)):=by
 obtain⟨R,eR⟩:=x_ (λe I=>(∃v,e= .returned v)/\((∃ys:List (jR C),cn ys=C/\J ys I)\/(∃d:List (jR C),cn d <+:C/\Jx d I)):Ending->World->Prop)
 rw[<-eR];have FA:Hid (∀v I ys,cn ys=C->J ys I->R (.returned v) I):=h_ λv I ys hv h=>by rw[eR];exact⟨⟨_,rfl⟩, .inl ⟨ys,hv,h⟩⟩
 have FB:Hid (∀v I d,cn d <+:C->Jx d I->R (.returned v) I):=h_ λv I d hp h=>by rw[eR];exact⟨⟨_,rfl⟩, .inr ⟨_,hp,h⟩⟩
 clear eR;have H0:=h_ h0;have HY:=h_ hY;have HX:=h_ hX;have Do:=h_ rt;have m5:=h_ hb;have HH:=h_ hH;have HT:=h_ hT;have N:=h_ (And.intro Y T);have CO:=h_ (kZ o s (E:Int) W hH hE);rw[<-eL]at CO;have HE:=h_ hE;have gt:Hid (L.length<=1000000):=h_ (by rw[eL,bJ,rm,fe];exact fO (gE _ _) hE.jX);have EL:=h_ eL;have EC:=h_ eC;have g7:=h_ hp;clear h0 hY hX rt hb hH hT hE eL eC hp;refine callsIn_of_wp Tryz.func124 rfl trivial ?_ rfl;simp only[Tryz.ntmps124,tY,kq,qA,Nat.reduceAdd,Nat.reduceSub,M0,MZ,M7,M6,xK,xC]
 gi_wp2
 refine⟨trivial, ?_⟩;refine(callsIn_wide.2 CO.out).mono ?_;rintro e2 w2 ⟨Ag,c,rfl,qr,_,O,d8,i'⟩;obtain⟨A,no⟩:=x_ (some ⟨Ag,0,none⟩:Option Addr)
 rw[<-no]at O d8⊢;clear no;obtain⟨AA,ip⟩:=x_ A
 rw[<-ip]at O d8;have ge:=h_ ip;clear ip;have z':=h_ (r8 hJ H0.out i');have M:=h_ i';have co:=h_ d8;have m8:=h_ qr;have D':=h_ O;clear Y T CO H0 qr O d8 i';obtain⟨z,i8⟩:∃z,s.bF[E]? =some z:=⟨_,eH g7.out⟩
 have i9:=HH.out.below M.out;obtain⟨pb,po,ol⟩:=cG i9.bF (by intro e;have:=g7.out;rw[e]at this;simp at this);have HQ:Hid (∀K,Below w2.heap.size w2 K->K.cell? ⟨b1,0,none⟩=some (.pointer (some ⟨o.hb,0,none⟩))/\K.cell? ⟨b2,0,none⟩=some (.int .i64 (E:Int))/\K.cell? ⟨o.hb,5,none⟩=some (.slice (some ⟨pb,po,none⟩) s.bF.length o.c)/\K.cell? ⟨pb,po+E,none⟩=some (.int .i64 z)):=h_ λK h=>by
  have h3:=i9.below h;have h4:Below W.heap.size W K:=M.out.trans (h.mono M.out.size);have h5:=h3.bg.ag 5 _ rfl;have h6:=h3.bF;rw[ol]at h5 h6;exact⟨by rw[h4.cell (World.block_lt_of_cell? W _ N.out.1)];exact N.out.1,by rw[h4.cell (World.block_lt_of_cell? W _ N.out.2)];exact N.out.2,h5,fi h6 i8⟩
 have pu:PG L:=λe he=>by
  rw[EL.out]at he;obtain⟨t,ht,rfl⟩:=nS.1 he;have Y:=(dY _ _).mem_iff.1 ht;unfold j6 at Y;obtain⟨p,hp,rfl⟩:=nS.1 Y;have T:=(PY.1 hp).1;have h3:fP s.aw p.1=p.2:=by unfold fP;rw[Mk.get_some HH.out.mp.nodup T];rfl
  rw[h3];exact HE.out.ok p T
 have CK:=h_ (fun(k:Nat) K (h:Below w2.heap.size w2 K)=>uM AA c (L.take k) E z K ((co.out.below h (aL _)).take k) (by simp;have:=gt.out;omega) (by simp;have:=m8.out;omega) (λe he=>pu e (List.take_subset _ _ he)) (HT.out.below (M.out.trans (h.mono M.out.size)) (aL _)));have If:((E:Nat):Int)<(s.bF.length:Int):=by have:=g7.out;omega
 have F':(0:Int)<=((E:Nat):Int):=by omega
 have EM:Hid (Ej L E z=if(iA (L.take (pV L)) E z).2≥0 then(iA (L.take (pV L)) E z).2.toNat else pV L):=h_ rfl;have up:Hid (C=L.take (Ej L E z)):=h_ (by rw[EC.out,EL.out];unfold bE fA;rw[BX,tZ,i8];rfl);clear i9 ol i8 pu
 gi_wp2
 gi_loopw [5] (λv wr=> ∃k:Nat,v= .int .i64 (k:Int)/\k<=L.length/\Hid (jD L (L.length-k) k=pV L)/\wr=w2) (λv _=>(L.length:Int).toNat- (RowKit.intOf v).toNat)
 case atStart=>exact⟨0,rfl,gu _,h_ rfl,rfl⟩
 case round=>
  obtain⟨k,rfl,hk,HG,hw⟩:=hrel;subst hw;have Gb:=h_ hk;have Hh:(k:Int)+1<=9223372036854775807:=by have:=gt.out;omega
  have Fl:∀a:Int,((k:Int)==a)=(a==(k:Int)):=λa=>by rw[Px];simp only[beq_iff_eq];exact eq_comm
  have f8:∀ {j:Nat} {x:aV},L[j]? =some x->∃q w,A=some ⟨q,w,none⟩:=fun {j x} H=>by
   obtain⟨q,w,e,_⟩:=co.out.at_ H;exact⟨q,w,by rw[<-ge.out];exact e⟩
  have D:∀ {j:Nat} {x:aV} {q w:Nat},A=some ⟨q,w,none⟩->L[j]? =some x->wr.cell? ⟨q,w+j*7+1,none⟩=some (.int .i64 x.seq):=fun {j x q w} e H=>by
   obtain⟨_,_,e1,d7⟩:=co.out.at_ H;rw[ge.out,e]at e1;cases e1
   have:=d7 1 _ rfl
   rwa[<-Nat.add_assoc]at this
  have key:(Hid (pV L=k)/\((¬(k:Int)<(L.length:Int))\/(∃(x:aV) (q w:Nat),A=some ⟨q,w,none⟩/\(k:Int)<(L.length:Int)/\wr.cell? ⟨q,w+k*7+1,none⟩=some (.int .i64 x.seq)/\(x.seq==(k:Int))=false)\/(∃(x y:aV) (q w:Nat),A=some ⟨q,w,none⟩/\(k:Int)<(L.length:Int)/\wr.cell? ⟨q,w+k*7+1,none⟩=some (.int .i64 x.seq)/\(x.seq==(k:Int))=true/\wr.cell? ⟨q,w+(k+1)*7+1,none⟩=some (.int .i64 y.seq)/\((k:Int)+1==(L.length:Int))=false/\(k:Int)+1<(L.length:Int)/\(y.seq !=(k:Int))=false)))\/
    (Hid (k<L.length/\jD L (L.length- (k+1)) (k+1)=pV L)/\∃(x:aV) (q w:Nat),A=some ⟨q,w,none⟩/\(k:Int)<(L.length:Int)/\wr.cell? ⟨q,w+k*7+1,none⟩=some (.int .i64 x.seq)/\(x.seq==(k:Int))=true/\(((k:Int)+1==(L.length:Int))=true\/∃y:aV,wr.cell? ⟨q,w+(k+1)*7+1,none⟩=some (.int .i64 y.seq)/\((k:Int)+1==(L.length:Int))=false/\(k:Int)+1<(L.length:Int)/\(y.seq !=(k:Int))=true)):=by
   have lm: ¬Hw L k->Hid (pV L=k):=λh=>h_ (by rw[<-HG.out,Hx h])
   have gc:Hw L k->Hid (k<L.length/\jD L (L.length- (k+1)) (k+1)=pV L):=λh=>h_ ⟨h.1,by
    have:=HG.out;rw[show L.length-k=(L.length- (k+1))+1 by have:=h.1;omega,uP h]at this;exact this⟩
   rcases pC hk with Z|Z
   ·obtain⟨x,H⟩:∃x,L[k]? =some x:=⟨_,eH Z⟩
    obtain⟨q,w,ea⟩:=f8 H;by_cases hx:x.seq=(k:Int)
    ·by_cases Y:k+1=L.length
     ·exact .inr ⟨gc ⟨Z,by rw[H];simp[hx], .inl Y⟩,x,q,w,ea,by omega,D ea H,by simpa using hx, .inl (by simp;omega)⟩
     ·obtain⟨y,ey⟩:∃y,L[k+1]? =some y:=⟨_,eH (by omega)⟩
      by_cases hy:y.seq=(k:Int)
      ·exact .inl ⟨lm (by rintro⟨_,_,h|h⟩;exact Y h;exact h (by rw[ey];simp[hy])), .inr (.inr ⟨x,y,q,w,ea,by omega,D ea H,by simpa using hx,D ea ey,by simp;omega,by omega,by simpa using hy⟩)⟩
      ·exact .inr ⟨gc ⟨Z,by rw[H];simp[hx], .inr (by rw[ey];simpa using hy)⟩,x,q,w,ea,by omega,D ea H,by simpa using hx, .inr ⟨y,D ea ey,by simp;omega,by omega,by simpa using hy⟩⟩
    ·exact .inl ⟨lm (by rintro⟨_,h,_⟩;rw[H]at h;simp at h;exact hx h), .inr (.inl ⟨x,q,w,ea,by omega,D ea H,by simpa using hx⟩)⟩
   ·exact .inl ⟨lm (by rintro⟨h,_⟩;omega), .inl (by omega)⟩
  clear HG hk f8 D;rcases key with⟨HN,li|⟨x,q,w,rfl,li,c1,q1⟩|⟨x,y,q,w,rfl,li,c1,q1,c2,r1,py,q2⟩⟩|⟨io,x,q,w,rfl,li,c1,q1,r1|⟨y,c2,r1,py,q2⟩⟩
  rotate_left 3;iterate 2
   ·gi_wp2
    go_roundw
    case rel=>exact⟨k+1,rfl,io.out.1,h_ io.out.2,by trivial⟩
    case measure=>have:=io.out.1;simp[RowKit.intOf];omega
  all_goals
   have Z:k<=L.length:=by have:=Lr L;rw[HN.out]at this;exact this
   have Fl:(k:Int)<=(c:Int):=by have:=m8.out;omega
   have G':(0:Int)<=(k:Int):=by omega
   have lw:(L.take k).length=k:=by rw[jQ];omega
   have an:=h_ (CK.out k);rw[lw]at an;have bi:=h_ EM.out;rw[HN.out]at bi;obtain⟨cr,n8⟩:=x_ (iA (L.take k) E z)
   have dl:=Ot (L.take k) E z;rw[<-n8]at an bi dl;rw[lw]at dl;obtain⟨ce,ca⟩:=cr;clear n8 lw CK EM HN
   gi_wp2
   rw[<-ge.out];refine Free.gJ (.inl rfl) 17 [(11, .det (.tuple #[.int .i64 ce, .int .i64 ca]))] (λK=>Below wr.heap.size wr K) (by kernel_rfl) (by kernel_rfl) (by kernel_rfl) (Free.aW (λj mk r hf=>by simp only[Free.find]at hf;repeat' (first|cases hf|split at hf))) (Below.refl _ _).drew (λ_ _ h g=>h.trans (Below.mono g h.size)) ?_;simp only[eJ,dT];iterate 17 (first|(apply Free.aC (Free.wq rfl) rfl;(intro K hB hA;refine Free.au (f:=27) (args:= #[.slice AA k c, .int .i64 (E:Int), .int .i64 z]) (by clear hB hA;go_simp<;>rfl) ?_;refine(an.out K hB).mono ?_;rintro e w3 ⟨rfl,E'⟩;exact⟨_,rfl,E',rfl⟩);simp only[Pt])|(apply Free.ae (Free.wq rfl) rfl;(intro K hB hA;cases HQ.out K hB;clear hA hB;go_light;go_simp<;>rfl);(try simp only[Pt])))
   apply Free.ax;intro w5 S _ _;simp only[fm,fo];have Fr:∃m:Nat,Ej L E z=m/\m<=k/\((ca= -1/\m=k)\/ca=(m:Int)):=by
    have e:=bi.out;rcases dl with h|⟨i,hi,h⟩
    ·exact⟨k,by rw[e,if_neg (by rw[h];decide)],aL _, .inl ⟨h,rfl⟩⟩
    ·exact⟨i,by rw[e,if_pos (by rw[h];omega),h,tZ],by omega, .inr h⟩
   obtain⟨m,em,Id,Fd⟩:=Fr;have eC:=up.out;rw[em]at eC;have Ta:C.length=m:=by rw[eC,jQ];omega
   have Tb:∀ {j:Nat} {x:aV},j<m->L[j]? =some x->C[j]? =some x:=fun {j x} hj h=>by rw[eC,qC,if_pos hj];exact h
   have H':(m:Int)<=(c:Int):=by omega
   have Hl:(0:Int)<=(m:Int):=by omega
   have jp:Below W.heap.size W w5:=M.out.trans (S.mono M.out.size);have sm:Qi X b 7 aK AA L w5:=by
    refine⟨co.out.below S (aL _),λFs j e=> ?_⟩;obtain⟨Y,T⟩:=D'.out;rcases T with⟨T,h3⟩|⟨g,Gs,E9,T,h3,h4,_⟩
    ·exact absurd (Ky.1 h3) Fs
    ·injection T with e1 _ _;rw[e1]at e;have e':g=j:=by simpa using e
     subst e';have ro:g<wr.heap.size:=(iS.1 h4).1;refine⟨nX ro S.size,⟨E9,_,_,by rw[S.block _ ro];exact h4⟩,λhx=>by have:=HX.out _ hx;omega, ?_⟩;rw[gU (jp.block b m5.out),Do.out];simp
   have m9:=h_ sm;have m7:=h_ (r8 hJ z'.out S);have m4:=h_ (nX m5.out jp.size);have By:Hid (m<=L.length):=h_ (by omega);have m6:=h_ Ta;have ww:=h_ (λj x Y T=>Tb (j:=j) (x:=x) Y T);have H8:(m:Int)+1<=9223372036854775807:=by have:=gt.out;omega
   clear dl em eC Ta Tb jp sm S bi an;rcases Fd with⟨rfl,rfl⟩|rfl;all_goals
    gi_wp2
    gi_loopw [67] (λv wq=> ∃(j:Nat) (d:List (jR C)),v= .int .i64 (j:Int)/\j<=m/\Hid (cn d=C.take j)/\J d wq/\Qi X b 7 aK AA L wq/\b<wq.heap.size) (λv _=>m- (RowKit.intOf v).toNat)
    case atStart=>exact⟨0,[],rfl,gu _,h_ rfl,m7.out,m9.out,m4.out⟩
    case round=>
     clear m7 m9 m4;obtain⟨j,d,rfl,hj,g8,pi,pl,pm⟩:=hrel;have HJ:=h_ pi;have HS:=h_ pl;have ci:=h_ pm;clear pi pl pm;rcases pC hj with ld|ld
     ·have Fk:(j:Int)<(m:Int):=by omega
      obtain⟨x,H⟩:∃x,L[j]? =some x:=⟨_,eH (by have:=By.out;omega)⟩
      obtain⟨q,w,hA⟩:=cG HS.out.sl (by intro e;rw[e]at H;simp at H);have mt:=ww.out j x ld H;have nl:Hid (x∈C):=h_ (ue mt);obtain⟨cs,V⟩:=x_ (aK x)
      have kw:cs.length=7:=by rw[V];rfl
      have d7:∀u∈cs,u.oneCell'=true:=by rw[V];exact cm x
      have rx:wr.rangeAt q (w+j*7) cs:=by have h:=HS.out.sl;rw[hA]at h;rw[V];exact dq h H
      have C':=h_ rx;obtain⟨W6,e6⟩:=x_ (wr.alloc (.cells cs.toArray 42))
      have d6:Below wr.heap.size wr W6:=by rw[e6];exact(Below.refl _ _).alloc (aL _) _
      have At:Hid (W6.rangeAt wr.heap.size 0 cs):=h_ (by rw[e6];exact rg_of (ay.new wr cs 42));have HI:=h_ (cE cs kw);have v6:=h_ d7;have wn:=h_ kw;have E6:=h_ e6;have f9:d.length<C.length:=by rw[<-mR,g8.out,jQ,m6.out];omega
      obtain⟨fn,tmps,ul,Fw,hy,hR⟩:=HY.out d ⟨x,nl.out⟩ W6 (r8 hJ HJ.out d6) f9;dsimp only[Cy]at hy;rw[<-V]at hy;have HR:=h_ hR;have ii:=h_ (HS.out.bD (ku.below d6 ci.out));have U:=h_ (nX ci.out d6.size);have d9:Hid (cn (d++ [⟨x,nl.out⟩])=C.take (j+1)):=h_ (by rw[ie,g8.out,zX,mt];rfl);have Gu:(j:Int)+1<=9223372036854775807:=by omega
      subst hA;clear H mt V kw d7 rx e6 d6 hR f9 HJ HS ci hj
      gi_wp2_with (first
       |(refine lK (.tmp 69) ?_;refine kL (.inl rfl) rfl 42 (.tmp 69) rfl q (w+j*7) rfl cs _ C'.out Tryz.underlying42 rfl HI.out ?_)
       |(refine jU (.tmp 9) ?_;refine jt (.inl rfl) HI.out v6.out 9 70 wr W6 wr.heap.size rfl E6.out _ rfl rfl rfl rfl _ (by simp[wn.out]) ?_;simp only[Pt])
       |(refine lK (.tmp 9) ?_;refine kL (.inl rfl) rfl 42 (.tmp 9) rfl wr.heap.size 0 rfl cs _ At.out Tryz.underlying42 rfl HI.out ?_))
      refine HR.out.mono ?_;rintro e3 wy (⟨rfl,hJ3,hk3⟩|⟨rfl,hJx3⟩)
      ·have An:=h_ hJ3;have E8:=h_ (ii.out.bD hk3);have ut:=h_ (nX U.out hk3.size);clear hJ3 hk3 HR hy ii U
       gi_wp2
       go_roundw
       case rel=>exact⟨j+1,_,rfl,ld,d9,An.out,E8.out,ut.out⟩
       case measure=>simp[RowKit.intOf];omega
      ·have G:=h_ (FB.out (.tuple #[]) wy _ (by rw[d9.out];exact List.take_prefix _ _) hJx3);clear hJx3 HR hy ii U
       gi_wp2
       first
        |exact G.out
        |exact bodyPost_ret (results_none rfl _ _ _) rfl G.out
     ·have Fk: ¬(j:Int)<(m:Int):=by omega
      have G:=h_ (FA.out (.tuple #[]) wr d (by rw[g8.out,np (by rw[m6.out];omega)]) HJ.out);clear HJ HS ci
      gi_wp2
      first
       |exact G.out
       |(go_end0;exact G.out)
       |exact bodyPost_ret (results_none rfl _ _ _) rfl G.out
end Go.Proofs.YtkmbmfengcdmoaaGreatDoor
namespace Go.Proofs.YtkmbmfengcdmoaaGreatDoor
open Go.RowKit Go.ay Go.Jn Go.Dk Go.Ho Go.Opn Go.Maps Go.WideMaps Go.Apl Go.Mg Go.Rf Go.Lib

theorem yn(m:Nat)(hm:1<=m)(b e f:Nat)(X:Nat->Prop)(o:Lo)(s:HS)(d:Nat)(C:List aV)(q:C=bE s d)(w:World)(n:b<w.heap.size)(y:∀k,X k->k<w.heap.size)(g:iI b w=none)
  (i:w.cell? ⟨e,0,none⟩=some (.pointer (some ⟨o.hb,0,none⟩))) (j:w.cell? ⟨f,0,none⟩=some (.int .i64 (d:Int))) (u:HR w o s) (t:Nc s.aw) (B:d<s.bF.length) (x:cB w):
  SeqStopsK Fence.wide m Tryz.prog 124 #[.pointer (some ⟨e,0,none⟩), .pointer (some ⟨f,0,none⟩)] (Cy (C:=C)) (ku X b) (λD=>cn D=C) (λh=>cn h <+:C) C.length w:=λl J p W c v _ z r=>
 ym m hm l b e f X o s d _ C rfl q J p _ v z W (nX n c.size) (λk A=>nX (y k A) c.size) (by rw[gU (c.block b n)];exact g)
  (by rw[c.cell (World.block_lt_of_cell? w _ i)];exact i) (by rw[c.cell (World.block_lt_of_cell? w _ j)];exact j) (u.below c) t B (x.below c (aL _)) r
theorem JL{g:Operand}{p:Tmp}{d body:Code}{Q:Exit->Act->World->Prop}{a:Act}{w:World}(b u v:Nat)(X:Nat->Prop)(o:Lo)(s:HS)(t:Nat)(C:List aV)(E:C=bE s t)
  (T:a.eval g= .func (.func 124) #[] #[.pointer (some ⟨u,0,none⟩), .pointer (some ⟨v,0,none⟩)]) (S:b<w.heap.size) (R:∀k,X k->k<w.heap.size) (A:iI b w=none)
  (H:w.cell? ⟨u,0,none⟩=some (.pointer (some ⟨o.hb,0,none⟩))) (J:w.cell? ⟨v,0,none⟩=some (.int .i64 (t:Int))) (M:HR w o s) (L:Nc s.aw) (hp:t<s.bF.length) (O:cB w)
  (I:List (jR C)->World->Prop) (N:OwnFrom w.heap.size I) (G:I [] w) (q:jR C->Act->World->Prop) (y:∀x a',OwnFrom w.heap.size (fun(_:Unit) W=>q x a' W))
  (e:∀(l:Nat) (c:List (jR C)) (x:jR C) (W:World) (K:Act->World->Prop),I c W->(∀a' j,KeepsFrom w.heap.size W j->ku X b W j->I c j->q x a' j->K a' j)->
   d.wpIn (Fence.wide.inRound l) 2 Tryz.prog (Exit.then K (λ_ _ _=>False)) {tmps:=a.tmps.setIfInBounds p (.agg (aK x.1).toArray),defers:= []} W)
  (f:∀(l:Nat) (c:List (jR C)) (x:jR C) (a':Act) (W:World),w.heap.size<=l->(∃r,W.heap[l]? =some (.loop r))->I c W->q x a' W->c.length<C.length->body.wpIn (Fence.wide.inRound l) 2 Tryz.prog (ownPostG w.heap.size (ku X b) I (λ_ _ _=>False) (c++ [x]) W) a' W)
  (i:∀(D:Nat) (B:List (jR C)) (W:World),w.heap.size<=D->cn B=C->I B W->W.heap[D]? =some (.deferred (some []))->Q .normal {a with defers:= {target:= .collected D,args:= #[]}::a.defers} W):
  (Code.rangeFunc g #[p] d body).wp Tryz.prog Q a w:=
 (wpIn_wide (n:=4)).1 (wpIn_rangeFunc_ownH (α:=jR C) (encs:=Cy) (Kp:=ku X b) rfl (by decide) T trivial (enters_of Tryz.func124 (by kernel_rfl) rfl) (yn 3 (by decide) b u v X o s t C E w S R A H J M L hp O) (λh g=>h.trans g)
  (λw' l o o' Y Z z _=>ku.book w' l o o' (by omega) Z z) (Below.refl _ _) (λ_=>rfl) I (λ_ _ _=>False) N (λ_ _ _ _ _ h _ _=>h.elim) G q y
  (λl c x W K U V=>by simpa using e l c x W K U V) f i (λ_ _ _ _ _ _ h=>h.elim))
theorem Mz{g:Operand}{p:Tmp}{d body:Code}{Q:Exit->Act->World->Prop}{a:Act}{w:World}(b q r:Nat)(X:Nat->Prop)(o:Lo)(s:HS)(j:Nat)(C:List aV)(y:C=bE s j)
  (O:a.eval g= .func (.func 124) #[] #[.pointer (some ⟨q,0,none⟩), .pointer (some ⟨r,0,none⟩)]) (N:b<w.heap.size) (L:∀k,X k->k<w.heap.size) (t:iI b w=none)
  (A:w.cell? ⟨q,0,none⟩=some (.pointer (some ⟨o.hb,0,none⟩))) (B:w.cell? ⟨r,0,none⟩=some (.int .i64 (j:Int))) (G:HR w o s) (E:Nc s.aw) (T:j<s.bF.length) (J:cB w)
  (I:List (jR C)->World->Prop) (H:OwnFrom w.heap.size I) (z:I [] w) (F:jR C->Act)
  (e:∀(l:Nat) (c:List (jR C)) (x:jR C) (W:World) (K:Act->World->Prop),I c W->K (F x) W->d.wpIn (Fence.wide.inRound l) 2 Tryz.prog (Exit.then K (λ_ _ _=>False)) {tmps:=a.tmps.setIfInBounds p (.agg (aK x.1).toArray),defers:= []} W)
  (f:∀(l:Nat) (c:List (jR C)) (x:jR C) (W:World),I c W->c.length<C.length->body.wpIn (Fence.wide.inRound l) 2 Tryz.prog (ownPostG w.heap.size (ku X b) I (λ_ _ _=>False) (c++ [x]) W) (F x) W)
  (i:∀(D:Nat) (v:List (jR C)) (W:World),w.heap.size<=D->cn v=C->I v W->W.heap[D]? =some (.deferred (some []))->Q .normal {a with defers:= {target:= .collected D,args:= #[]}::a.defers} W):
  (Code.rangeFunc g #[p] d body).wp Tryz.prog Q a w:=
 JL b q r X o s j C y O N L t A B G E T J I H z (λx u _=>u=F x) (λ_ _ _ _ _ _ h _ _=>h)
  (λl c x W K n R=>e l c x W K n (R _ _ (KeepsFrom.refl _ _) (ku.refl _) n rfl)) (λl c x u W _ _ n M S=>by subst M;exact f l c x W n S) i
theorem Du{g:Operand}{p:Tmp}{d body:Code}{Q:Exit->Act->World->Prop}{a:Act}{w:World}(b v y:Nat)(X:Nat->Prop)(o:Lo)(s:HS)(t:Nat)(C:List aV)(L:C=bE s t)
  (B:a.eval g= .func (.func 124) #[] #[.pointer (some ⟨v,0,none⟩), .pointer (some ⟨y,0,none⟩)]) (Z:b<w.heap.size) (V:∀k,X k->k<w.heap.size) (E:iI b w=none)
  (N:w.cell? ⟨v,0,none⟩=some (.pointer (some ⟨o.hb,0,none⟩))) (O:w.cell? ⟨y,0,none⟩=some (.int .i64 (t:Int))) (S:HR w o s) (R:Nc s.aw) (hp:t<s.bF.length) (U:cB w)
  (I:List (jR C)->World->Prop) (T:OwnFrom w.heap.size I) (M:I [] w) (z:∀c W G,I c W->Below W.heap.size W G->I c G) (A:∀c W,I c W->b<W.heap.size) (F:jR C->Nat->Act)
  (f:∀(l:Nat) (c:List (jR C)) (x:jR C) (W:World) (K:Act->World->Prop),I c W->K (F x W.heap.size) (W.alloc (.cells (aK x.1).toArray 42))->d.wpIn (Fence.wide.inRound l) 2 Tryz.prog (Exit.then K (λ_ _ _=>False)) {tmps:=a.tmps.setIfInBounds p (.agg (aK x.1).toArray),defers:= []} W)
  (j:∀(l:Nat) (c:List (jR C)) (x:jR C) (h:Nat) (W:World),I c W->ay W h (aK x.1) 42->c.length<C.length->body.wpIn (Fence.wide.inRound l) 2 Tryz.prog (ownPostG w.heap.size (ku X b) I (λ_ _ _=>False) (c++ [x]) W) (F x h) W)
  (n:∀(D:Nat) (J:List (jR C)) (W:World),w.heap.size<=D->cn J=C->I J W->W.heap[D]? =some (.deferred (some []))->Q .normal {a with defers:= {target:= .collected D,args:= #[]}::a.defers} W):
  (Code.rangeFunc g #[p] d body).wp Tryz.prog Q a w:=
 JL b v y X o s t C L B Z V E N O S R hp U I T M (λx u W=> ∃h,u=F x h/\ay W h (aK x.1) 42)
  (λx u _ w w' row ⟨h,e,q⟩ B hr=>⟨h,e,q.bG (B.block _ q.lt (λe=>by
   obtain⟨_,oo,H,hc⟩:=hr _ e.symm;rw[show w.heap[h]? =_ from q]at H;cases H;cases hc))⟩)
  (λl c x W K r q=>by
   have i:Below W.heap.size W (W.alloc (.cells (aK x.1).toArray 42)):=(Below.refl _ _).alloc (aL _) _;exact f l c x W K r (q _ _ ((gC i).from _) (ku.below i (A c W r)) (z _ _ _ r i) ⟨_,rfl,ay.new W _ _⟩)) (λl c x u W _ _ r ⟨h,Y,q⟩ hl=>by subst Y;exact j l c x h W r q hl) n
end Go.Proofs.YtkmbmfengcdmoaaGreatDoor
