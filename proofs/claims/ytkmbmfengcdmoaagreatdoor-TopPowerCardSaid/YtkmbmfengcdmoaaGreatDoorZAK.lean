/- Slices opened to lists, as arguments and as parts of structs. No condition. -/
import Derived.Test.YtkmbmfengcdmoaaGreatDoorZAJ
import Derived.Deep.WholeRow
import Derived.Test.YtkmbmfengcdmoaaGreatDoorZAI
import Derived.Maps.AppendAt
import Derived.Below
import Derived.Laws.AppendOwn
import Derived.Test.YtkmbmfengcdmoaaGreatDoorZAA
import Derived.Lib.SmallJoins
set_option maxRecDepth 100000
set_option linter.all false
namespace Go.Proofs.YtkmbmfengcdmoaaGreatDoor
open Go.RowKit Go.W32 Go.ay Go.Cs Go.Lib Go.Opn

theorem Mf{p:kv}(h:Cf p):(∀n∈p.cl,cP n)/\cP p.kind/\cP p.days/\(∀n∈p.new.front,cP n)/\(∀n∈p.new.back,cP n)/\∀s∈p.new.start,cP s.1/\cP s.2:=by have h:=h.jc;simp only[kv.jc,mT.jc,zT,lC,PT]at h;refine⟨λn c=>h n (.inl (.inr c)),h _ (.inl (.inl (.inl rfl))),h _ (.inl (.inl (.inr (.inl rfl)))),λn c=>h n (.inr (.inl (.inl (.inl (.inl c))))),λn c=>h n (.inr (.inl (.inl (.inr c)))),λs d=>⟨h _ (.inr (.inr ⟨s,d, .inl rfl⟩)),h _ (.inr (.inr ⟨s,d, .inr (.inl rfl)⟩))⟩⟩
structure ll (n0:Nat) (W4:World) (Rs:List (Nat×TypeId×List Value)) (l:List Int) (w:World):Prop where
 st:my n0 W4 l w
 rows:∀r∈Rs,r.2.1≠5/\r.1≠n0+1+1/\Row w r.1 r.2.1 r.2.2
variable {n0:Nat} {W4 w:World} {Rs:List (Nat×TypeId×List Value)} {l:List Int}
theorem ll.bD{w':World}{d:List Int}(h:ll n0 W4 Rs l w)(e:my n0 W4 d w')(f:Kp (n0+1) (n0+1+1) w w'):ll n0 W4 Rs d w':=
 ⟨e,λr c=>⟨(h.rows r c).1,(h.rows r c).2.1,(h.rows r c).2.2.kept f (h.rows r c).1 (h.rows r c).2.1⟩⟩
theorem ll.write(h:ll n0 W4 Rs l w)(j:TW n0 W4)(n:Int)(i:cP n)(g:l.length<=1000):
  Calls Tryz.prog 121 #[.int .i64 n, .pointer (some ⟨n0+1+1,0,none⟩)] w λe w'=>e= .returned (.tuple #[])/\ll n0 W4 Rs (l++ [n]) w':=
 (h.st.write j n i g).mono λ_ _ ⟨c,d,f⟩=>⟨c,h.bD d f⟩
theorem ll.flag(h:ll n0 W4 Rs l w)(i:TW n0 W4)(x:Bool)(g:l.length<=1000):
  Calls Tryz.prog 123 #[.bool x, .pointer (some ⟨n0+1+1+1,0,none⟩)] w λe w'=>e= .returned (.tuple #[])/\ll n0 W4 Rs (l++ [Eb x]) w':=
 (h.st.flag i x g).mono λ_ _ ⟨c,d,f⟩=>⟨c,h.bD d f⟩
theorem my.T4(h:my n0 W4 l w):n0+1+1<w.heap.size:=by obtain⟨v,c,_⟩:=h.out;exact(iS.1 c).1
theorem ll.new(h:ll n0 W4 Rs l w)(e:TW n0 W4)(T:TypeId)(cs:List Value)(d:T≠5):ll n0 W4 ((w.heap.size,T,cs)::Rs) l (w.alloc (.cells cs.toArray T)):=
 ⟨h.st.alloc e _,λr c=>by
  rcases lC.1 c with rfl|c
  ·exact⟨d,by have:=h.st.T4;show w.heap.size≠_;omega,Row.new w T cs⟩
  ·exact⟨(h.rows r c).1,(h.rows r c).2.1,(h.rows r c).2.2.alloc _⟩⟩
theorem ll.drop{r:Nat×TypeId×List Value}(h:ll n0 W4 (r::Rs) l w):ll n0 W4 Rs l w:=⟨h.st,λd c=>h.rows d (by simp[c])⟩
theorem ll.at(h:ll n0 W4 Rs l w){b k:Nat}{T:TypeId}{cs:List Value}(c:(b,T,cs)∈Rs){v:Value}(hv:cs[k]? =some v):w.cell? ⟨b,k,none⟩=some v:=(h.rows _ c).2.2.at hv
theorem my.ju{W:World}(h:my n0 W4 l w)(c:Below n0 W W4){q:Addr}(d:q.block<n0):w.cell? q=W.cell? q:=
 (c.trans ⟨h.kp.below.os,h.kp.below.tape,h.kp.below.output,fO (aL _) h.kp.below.size,λj e=>h.kp.below.block j (by omega)⟩).cell d
def iv(n:Int):Value:= .int .i64 n
def IA(k:mT):List Value:=k.front.map iv
def Ni(k:mT):List Value:=k.back.map iv
theorem Jf{c:List Int}{k:Nat}(h:k<c.length):(c.map iv)[k]? =some (.int .i64 c[k]):=by rw[mx,eH h];rfl

set_option maxHeartbeats 4000000 in
theorem BO(p:kv)(h:Hd)(W:World)(hT:cB W)(hp:qE W p h)(ho:Cf p)(Qq:p.cl.length<=400)(m4:p.new.start.length<=8):
  Calls Tryz.prog 77 #[.agg (jL p h).toArray] W λe w'=>e= .returned (.string (tx (dI++words p.jc)))/\Below W.heap.size W w':=by
 obtain⟨It,Nt,No,Iu,Iq,Nu⟩:=Mf ho;obtain⟨F,eF⟩:=x_ p.new.front
 obtain⟨G,eG⟩:=x_ p.new.back
 have lF:F.length=6:=by rw[eF];rfl
 have lG:G.length=6:=by rw[eG];rfl
 rw[<-eF]at Iu;rw[<-eG]at Iq;have EF:=h_ eF;have EG:=h_ eG;clear eF eG;obtain⟨M,N⟩:=x_ (jL p h)
 have ii:Hid (Row (W.alloc (.cells M.toArray 36)) W.heap.size 36 M):=h_ (Row.new _ _ _);have g0:M[0]? =some (.int .i64 p.kind):=by rw[N];rfl
 have g1:M[1]? =some (.slice h.A p.cl.length h.c):=by rw[N];rfl
 have g6:M[6]? =some (.slice h.B p.new.start.length h.d):=by rw[N];rfl
 have M2:M[18]? =some (.int .i64 p.days):=by rw[N];rfl
 obtain⟨y,d6⟩:=x_ (nA p.new (.slice h.B p.new.start.length h.d))
 have gm:∀j v,y[j]? =some v->M[2+j]? =some v:=λj v hj=>by
  rw[N];rw[d6]at hj
  have:j<16:=(jS.1 hj).1
  match j,this with
  |0,_|1,_|2,_|3,_|4,_|5,_|6,_|7,_|8,_|9,_|10,_|11,_|12,_|13,_|14,_|15,_=>exact hj
 rw[<-N];have z:∀(j:Nat) (v:Value),(nA p.new (.slice h.B p.new.start.length h.d))[j]? =some v->y[j]? =some v:=λj v hj=>by rw[d6];exact hj
 have J:=h_ z;have sm:Hid ((Tryz.prog.info? 34).map (·.size)=some y.length):=by show _=_;rw[d6];kernel_rfl
 have Jz:Hid (y.toArray.all (·.oneCell')=true):=all_oneCell_toArray (λv hv=>sy _ _ rfl v (by rw[<-d6];exact hv));clear z;have J5:Hid ((Tryz.prog.info? 214).map (·.size)=some 2):=by show _=_;kernel_rfl
 have Pf:=h_ N;have GM:=h_ gm;have KL:Hid (y.length=16):=by show _=_;rw[d6];rfl
 clear N d6 gm;have c0:=ii.out.at g0;have c1:=ii.out.at g1;have c6:=ii.out.at g6;have k1: ¬((400:Int)<(p.cl.length:Int)):=by omega
 have k2: ¬((8:Int)<(p.new.start.length:Int)):=by omega
 have kc:=fun(C:Array Value) (n c:Nat)=>Lib.run_convert_bytes_const (P:=Tryz.prog) (W.alloc (.cells M.toArray 36)) 117 5 C n c Tryz.underlying117 Tryz.underlying5
 rw[show(W.alloc (.cells M.toArray 36)).heap.size=W.heap.size+1 by simp]at kc;obtain⟨W3,e3⟩:=x_ (((W.alloc (.cells M.toArray 36)).alloc (.cells #[.int .u8 112, .int .u8 97, .int .u8 116, .int .u8 99, .int .u8 104] 5 (5,6))).alloc (.cells #[.slice (some ⟨W.heap.size+1,0,none⟩) 5 5] 117))
 have z3:W3.heap.size=W.heap.size+1+1+1:=by rw[e3];simp
 obtain⟨W4,e4⟩:=x_ (W3.alloc (.cells #[.func (.func 121) #[] #[.pointer (some ⟨W.heap.size+1+1,0,none⟩)]] 211))
 have bi:Below W.heap.size W W4:=by rw[e4,e3];exact((((Below.refl _ _).alloc (aL _) _).alloc (by simp) _).alloc (by simp;omega) _).alloc (by simp;omega) _
 have H':Row W3 (W.heap.size+1+1) 117 [.slice (some ⟨W.heap.size+1,0,none⟩) 5 5]:=by have:=Row.new ((W.alloc (.cells M.toArray 36)).alloc (.cells #[.int .u8 112, .int .u8 97, .int .u8 116, .int .u8 99, .int .u8 104] 5 (5,6))) 117 [.slice (some ⟨W.heap.size+1,0,none⟩) 5 5];rw[e3];simpa using this
 have Id:Row W4 (W.heap.size+1+1+1) 211 [.func (.func 121) #[] #[.pointer (some ⟨W.heap.size+1+1,0,none⟩)]]:=by have:=Row.new W3 211 [.func (.func 121) #[] #[.pointer (some ⟨W.heap.size+1+1,0,none⟩)]];rw[z3]at this;rw[e4];exact this
 have py:Row W4 W.heap.size 36 M:=by rw[e4,e3];exact((ii.out.alloc _).alloc _).alloc _
 have m7:Row W4 (W.heap.size+1+1) 117 [.slice (some ⟨W.heap.size+1,0,none⟩) 5 5]:=by rw[e4];exact H'.alloc _
 have m6:∀j u,(byteCells dI)[j]? =some u->W4.cell? ⟨W.heap.size+1,j,none⟩=some u:=by
  intro j u hu;have h0:((W.alloc (.cells M.toArray 36)).alloc (.cells #[.int .u8 112, .int .u8 97, .int .u8 116, .int .u8 99, .int .u8 104] 5 (5,6))).heap[W.heap.size+1]? =some (.cells #[.int .u8 112, .int .u8 97, .int .u8 116, .int .u8 99, .int .u8 104] 5 (5,6)):=by
   have:=(MapKept.heap_alloc (W.alloc (.cells M.toArray 36)) (.cells #[.int .u8 112, .int .u8 97, .int .u8 116, .int .u8 99, .int .u8 104] 5 (5,6))).1
   rwa[show(W.alloc (.cells M.toArray 36)).heap.size=W.heap.size+1 by simp]at this
  have h1:W4.heap[W.heap.size+1]? =some (.cells #[.int .u8 112, .int .u8 97, .int .u8 116, .int .u8 99, .int .u8 104] 5 (5,6)):=by rw[e4,(MapKept.heap_alloc W3 _).2 _ (by omega),e3,(MapKept.heap_alloc _ _).2 _ (by simp)];exact h0
  rw[cell_of_row W4 _ j _ 5 (5,6) h1, <-Array.getElem?_toList];exact hu
 have li:TW W.heap.size W4:=⟨by have:=bi.size;rw[e4];simp[z3],λw' gt=>by
  have:Below W.heap.size W w':=bi.trans ⟨gt.os,gt.tape,gt.output,gt.size,λk hk=>gt.block k (by omega)⟩;exact hT.RR w' this,Id⟩
 obtain⟨We,pm⟩:=x_ ((((W.alloc (.cells M.toArray 36)).alloc (.cells #[.int .u8 112, .int .u8 97, .int .u8 116, .int .u8 99, .int .u8 104] 5 (5,6))).alloc (.cells #[.slice (some ⟨W.heap.size+1,0,none⟩) 5 5] 117)).alloc (.cells #[.func (.func 121) #[] #[.pointer (some ⟨W.heap.size+1+1,0,none⟩)]] 211))
 have Fk:We=W4:=by rw[pm,e4,e3]
 have CF:Calls Tryz.prog 121 #[.int .i64 p.kind, .pointer (some ⟨W.heap.size+1+1,0,none⟩)] We λe w'=>e= .returned (.tuple #[])/\Hid (my W.heap.size W4 [p.kind] w'):=by rw[Fk];exact(my.first li p.kind Nt m7 m6).mono λ_ _ h=>⟨h.1,h_ h.2⟩
 rw[pm]at CF;have I8:=Gq Tryz.prog W3 .nilFunc (.func (.func 121) #[] #[.pointer (some ⟨W.heap.size+1+1,0,none⟩)]) 211 rfl;rw[z3,e3]at I8;have f:=h_ li;have Pi:=h_ py;have g8:=h_ bi;have K:Hid (∀l w,my W.heap.size W4 l w->w.cell? ⟨W.heap.size+1+1+1,0,none⟩=some (.func (.func 121) #[] #[.pointer (some ⟨W.heap.size+1+1,0,none⟩)])/\Row w W.heap.size 36 M):=
  h_ λl w h=>⟨h.c4 li,h.row py (by decide) (by omega)⟩
 clear e4 e3 li py bi H' Id m7 m6 z3 pm Fk;go_enter Tryz.func77,Tryz.ntmps77;go_wp2_with fail;refine CF.mono ?_;rintro e w5 ⟨rfl,D⟩;obtain⟨Ko,r5⟩:=K.out _ _ D.out;have By:=r5.at M2;clear CF I8 kc c0 c1 c6;go_wp2_with fail;refine(my.write D.out f.out _ No (by simp)).mono ?_;rintro e w6 ⟨rfl,qr,Nl⟩;have io:=h_ qr;obtain⟨K0,r6⟩:=K.out _ _ qr;have Ki:=r6.at g1;clear qr Ko r5;go_wp2_with fail;clear Nl By;refine(my.write io.out f.out _ (by unfold cP;omega) (by simp)).mono ?_;rintro e w7 ⟨rfl,ro,Nm⟩;have E:=h_ ro;obtain⟨pl,r7⟩:=K.out _ _ ro;have Kn:=r7.at g1;clear ro K0 r6;go_wp2_with fail;clear Nm Ki;obtain⟨L3,i8⟩:=x_ ([p.kind]++ [p.days]++ [(p.cl.length:Int)])
 have Io:L3.length=3:=by rw[i8];rfl
 rw[<-i8]at E;have I':=h_ i8;clear i8
 go_loopw [46] (λv wr=> ∃k:Nat,v= .int .i64 (k:Int)/\k<=p.cl.length/\my W.heap.size W4 (L3++p.cl.take k) wr) (λv _=>(p.cl.length:Int).toNat- (RowKit.intOf v).toNat)
 case atStart=>exact⟨0,rfl,gu _,by rw[dT,DS];exact E.out⟩
 case round=>
  clear E pl r7 Kn;obtain⟨k,rfl,hk,rt⟩:=hrel;have I:=h_ rt;obtain⟨Mo,rr⟩:=K.out _ _ rt;clear rt rr;rcases pC hk with O|O
  ·have lm:(k:Int)<(p.cl.length:Int):=by omega
   have hx:p.cl[k]? =some p.cl[k]:=eH O;obtain⟨bA,g7,eA,i⟩:=hp.cl.at_ hx;have cx:wr.cell? ⟨bA,g7+k,none⟩=some (.int .i64 p.cl[k]):=by have:=i 0 _ rfl;rw[KJ,KO]at this;have hb:=World.block_lt_of_cell? W _ this;rw[((g8.out.trans ⟨I.out.kp.below.os,I.out.kp.below.tape,I.out.kp.below.output,I.out.kp.below.size,λj hj=>I.out.kp.below.block j (by omega)⟩)).cell (p:=⟨bA,g7+k,none⟩) hb];exact this
   have Y:=It _ (KM O);have X:Hid ((L3++p.cl.take k)++ [p.cl[k]]=L3++p.cl.take (k+1)):=by show _=_;rw[List.append_assoc, <-List.take_append_getElem O]
   obtain⟨x,ex⟩:=x_ (p.cl[k])
   rw[<-ex]at cx Y X;have pu:(L3++p.cl.take k).length<=1000:=by simp[Io];omega
   rw[eA];clear i hx ex;go_wp2_with fail;refine(my.write I.out f.out _ Y pu).mono ?_;rintro e w8 ⟨rfl,If, -⟩;have ip:=h_ If;clear If Mo cx;go_wp2_with fail
   go_roundw
   case rel=>
    go_light;have key:my W.heap.size W4 (L3++p.cl.take (k+1)) w8:=by rw[<-X.out];exact ip.out
    first|exact⟨k+1,rfl,O,key⟩|((repeat apply Exists.intro);exact⟨rfl,O,key⟩)
   case measure=>simp[RowKit.intOf];omega
  ·have lm: ¬((k:Int)<(p.cl.length:Int)):=by omega
   have m5:Hid (my W.heap.size W4 (L3++p.cl) wr):=by have:=I.out;rw[O,KK]at this;exact this
   obtain⟨Mt,rz⟩:=K.out _ _ m5.out;have J7:=h_ (rz.range GM.out);obtain⟨L4,i9⟩:=x_ (L3++p.cl)
   have Rd:L4.length<=403:=by rw[i9];simp[Io];omega
   rw[<-i9]at m5;have Jh:=h_ i9;obtain⟨U,rfl⟩:=x_ wr
   obtain⟨W5,e5⟩:=x_ (U.alloc (.cells y.toArray 34))
   have z5:Hid (W5.heap.size=U.heap.size+1):=by show _=_;rw[e5];simp
   have D:Hid (ll W.heap.size W4 [(U.heap.size,34,y)] L4 W5):=h_ (by rw[e5];exact ll.new ⟨m5.out,λr hr=>by cases hr⟩ f.out 34 y (by decide));have m4:=fun(Q:Exit->Act->World->Prop) (ops:Array Oper) (rest:List Oper) (o:Oper) (a:Act) (hgd:o.guard=none) (ho:o.op= .store 34 (.tmp 8) (.tmp 55)) (hx:a.eval (.tmp 8)= .pointer (some ⟨U.heap.size,0,none⟩)) (hy:a.eval (.tmp 55)= .agg y.toArray) (ju:Array Value) (hold:ju.size=y.toArray.size)=>
    Hk.aD (P:=Tryz.prog) (ops:=ops) (rest:=rest) (o:=o) (a:=a) (Q:=Q) hgd 34 (.tmp 8) (.tmp 55) ho U.heap.size y.toArray hx hy ju 34 (w:=U) rfl (by rw[sm.out];simp) hold Jz.out
   rw[<-e5]at m4;have Kh:=h_ m4;have Qs:=D.out.at dH (J.out 0 _ rfl);have Qt:=D.out.at dH (J.out 1 _ rfl);have Qu:=D.out.at dH (J.out 2 _ rfl);have Qv:=D.out.at dH (J.out 3 _ rfl);have Qw:=D.out.at dH (J.out 5 _ rfl);have Qz:=D.out.at dH (J.out 6 _ rfl);have io:Hid (ll W.heap.size W4 [(W5.heap.size,3,F.map iv),(U.heap.size,34,y)] L4 (W5.alloc (.cells (IA p.new).toArray 3))):=h_ (by rw[EF.out];exact D.out.new f.out 3 (IA p.new) (by decide));clear I hk O i9 rz Mt e5 m4 m5;go_wp2_with (first|(with_reducible refine wpList_load_mid rfl 34 (.tmp 54) rfl W.heap.size 2 rfl y _ J7.out Tryz.underlying34 rfl sm.out ?_)|(refine Kh.out _ _ _ _ _ rfl rfl rfl rfl _ (by simp[KL.out]) ?_;simp only[Act.put]))
   go_loopw [70] (λv wra=> ∃k:Nat,v= .int .i64 (k:Int)/\k<=6/\ll W.heap.size W4 [(W5.heap.size,3,F.map iv),(U.heap.size,34,y)] (L4++F.take k) wra) (λv _=>(6:Int).toNat- (RowKit.intOf v).toNat)
   case atStart=>exact⟨0,rfl,gu _,by rw[dT,DS];exact io.out⟩
   case round=>
    clear io;obtain⟨ka,rfl,Gb,f8⟩:=hrel;obtain⟨wra,rfl⟩:=x_ wr
    have Z:=h_ f8;have C':=f8.st.c4 f.out;clear f8;rcases pC Gb with R|R
    ·have Gs:(ka:Int)<6:=by omega
     have E':=Z.out.at dH (Jf (show ka<F.length by omega));have ol:=Iu _ (KM (show ka<F.length by omega));have no:Hid ((L4++F.take ka)++ [F[ka]]=L4++F.take (ka+1)):=by show _=_;rw[List.append_assoc, <-List.take_append_getElem (show ka<F.length by omega)]
     have Hl:(L4++F.take ka).length<=1000:=by rw[fu,jQ];omega
     obtain⟨xa,Fw⟩:=x_ (F[ka])
     rw[<-Fw]at E' ol no;clear Fw;go_wp2_with fail;refine(ll.write Z.out f.out _ ol Hl).mono ?_;rintro e Nv ⟨rfl,m8⟩;have ul:=h_ m8;clear m8 C' E';go_wp2_with fail
     go_roundw
     case rel=>
      go_light;have key:ll W.heap.size W4 [(W5.heap.size,3,F.map iv),(U.heap.size,34,y)] (L4++F.take (ka+1)) Nv:=by rw[<-no.out];exact ul.out
      first|exact⟨ka+1,rfl,R,key⟩|((repeat apply Exists.intro);exact⟨rfl,R,key⟩)
     case measure=>simp[RowKit.intOf];omega
    ·have Gs: ¬((ka:Int)<6):=by omega
     have co:ll W.heap.size W4 [(U.heap.size,34,y)] (L4++F) wra:=by have:=Z.out.drop;rw[R,show(6:Nat)=F.length from lF.symm,KK]at this;exact this
     obtain⟨L5,i'⟩:=x_ (L4++F)
     have Rg:L5.length<=409:=by rw[i',fu];omega
     rw[<-i']at co;have Jr:=h_ i';have ut:=h_ co;have Nj:=co.at dH (J.out 7 _ rfl);clear Z co Gb R i';go_wp2_with fail;refine(ll.flag ut.out f.out _ (by omega)).mono ?_;rintro e wb ⟨rfl,lw⟩;have v6:=h_ lw;have Mb:=lw.st.c4 f.out;have Nk:=lw.at dH (J.out 8 _ rfl);clear lw C' Nj;go_wp2_with fail;refine(ll.flag v6.out f.out _ (by simp;omega)).mono ?_;rintro e wc ⟨rfl,q⟩;obtain⟨L6,jp⟩:=x_ (L5++ [Eb p.new.PH]++ [Eb p.new.fin])
     have Rh:L6.length<=411:=by rw[jp];simp;omega
     rw[<-jp]at q;have Js:=h_ jp;have Pq:=h_ q;have Pr:=q.st.c4 f.out;have Ra:=q.at dH (J.out 9 _ rfl);have Od:=q.at dH (J.out 10 _ rfl);have Of:=q.at dH (J.out 11 _ rfl);have Oh:=q.at dH (J.out 12 _ rfl);have Ox:=q.at dH (J.out 13 _ rfl);have O':=q.at dH (J.out 14 _ rfl);have wn:Hid (ll W.heap.size W4 [(wc.heap.size,3,G.map iv),(U.heap.size,34,y)] L6 (wc.alloc (.cells (Ni p.new).toArray 3))):=h_ (by rw[EG.out];exact q.new f.out 3 (Ni p.new) (by decide));clear q Mb Nk jp ut v6;go_wp2_with fail
     go_loopw [102] (λv wrd=> ∃k:Nat,v= .int .i64 (k:Int)/\k<=6/\ll W.heap.size W4 [(wc.heap.size,3,G.map iv),(U.heap.size,34,y)] (L6++G.take k) wrd) (λv _=>(6:Int).toNat- (RowKit.intOf v).toNat)
     case atStart=>exact⟨0,rfl,gu _,by rw[dT,DS];exact wn.out⟩
     case round=>
      clear wn;obtain⟨kd,rfl,lm,f9⟩:=hrel;obtain⟨wrd,rfl⟩:=x_ wr
      have an:=h_ f9;have Do:=f9.st.c4 f.out;clear f9;rcases pC lm with S|S
      ·have Gu:(kd:Int)<6:=by omega
       have Fd:=an.out.at dH (Jf (show kd<G.length by omega));have pi:=Iq _ (KM (show kd<G.length by omega));have n8:Hid ((L6++G.take kd)++ [G[kd]]=L6++G.take (kd+1)):=by show _=_;rw[List.append_assoc, <-List.take_append_getElem (show kd<G.length by omega)]
       have H8:(L6++G.take kd).length<=1000:=by rw[fu,jQ];omega
       obtain⟨xd,F'⟩:=x_ (G[kd])
       rw[<-F']at Fd pi n8;clear F';go_wp2_with fail;refine(ll.write an.out f.out _ pi H8).mono ?_;rintro e Ny ⟨rfl,m9⟩;have up:=h_ m9;clear m9 Do Fd;go_wp2_with fail
       go_roundw
       case rel=>
        go_light;have key:ll W.heap.size W4 [(wc.heap.size,3,G.map iv),(U.heap.size,34,y)] (L6++G.take (kd+1)) Ny:=by rw[<-n8.out];exact up.out
        first|exact⟨kd+1,rfl,S,key⟩|((repeat apply Exists.intro);exact⟨rfl,S,key⟩)
       case measure=>simp[RowKit.intOf];omega
      ·have Gu: ¬((kd:Int)<6):=by omega
       have dl:ll W.heap.size W4 [(U.heap.size,34,y)] (L6++G) wrd:=by have:=an.out.drop;rw[S,show(6:Nat)=G.length from lG.symm,KK]at this;exact this
       obtain⟨L7,kw⟩:=x_ (L6++G)
       have Ri:L7.length<=417:=by rw[kw,fu];omega
       rw[<-kw]at dl;have Jt:=h_ kw;have ww:=h_ dl;have In:=dl.at dH (J.out 15 _ rfl);clear an dl lm S kw;go_wp2_with fail;refine(ll.flag ww.out f.out _ (by omega)).mono ?_;rintro e we ⟨rfl,mt⟩;have z':=h_ mt;have Mj:=mt.st.c4 f.out;have M':=mt.at dH (J.out 4 _ rfl);clear mt Do In ww;go_wp2_with fail;refine(ll.write z'.out f.out _ (by unfold cP;omega) (by simp;omega)).mono ?_;rintro e wf ⟨rfl,d9⟩;obtain⟨L8,ld⟩:=x_ (L7++ [Eb p.new.qx]++ [(p.new.start.length:Int)])
       have Rk:L8.length<=419:=by rw[ld];simp;omega
       rw[<-ld]at d9;have Ju:=h_ ld;have An:=h_ d9;have P':=d9.st.c4 f.out;have Pe:=d9.at dH (J.out 4 _ rfl);clear d9 Mj M' ld z';go_wp2_with fail
       go_loopw [122] (λv wr=> ∃k:Nat,v= .int .i64 (k:Int)/\k<=p.new.start.length/\ll W.heap.size W4 [(U.heap.size,34,y)] (L8++(p.new.start.take k).flatMap (λs=> [s.1,s.2])) wr) (λv _=>(p.new.start.length:Int).toNat- (RowKit.intOf v).toNat)
       case atStart=>exact⟨0,rfl,gu _,by rw[dT,Se,DS];exact An.out⟩
       case round=>
        clear An;obtain⟨z,rfl,Hh,gc⟩:=hrel;obtain⟨V,rfl⟩:=x_ wr
        have g:=h_ gc;have D':=gc.st.c4 f.out;clear gc;rcases pC Hh with m|m
        ·have G':(z:Int)<(p.new.start.length:Int):=by omega
         have hx:p.new.start[z]? =some p.new.start[z]:=eH m;obtain⟨bB,g7,eB,i⟩:=hp.st.at_ hx;have E8:V.cell? ⟨bB,g7+z*2,none⟩=some (.int .i64 p.new.start[z].1):=by have:=i 0 _ rfl;rw[KO]at this;rw[g.out.st.ju g8.out (World.block_lt_of_cell? W _ this)];exact this
         have E9:V.cell? ⟨bB,g7+z*2+1,none⟩=some (.int .i64 p.new.start[z].2):=by have:=i 1 _ rfl;rw[<-Nat.add_assoc]at this;rw[g.out.st.ju g8.out (World.block_lt_of_cell? W _ this)];exact this
         have Y:=Nu _ (KM m);have X:Hid ((L8++(p.new.start.take z).flatMap (λs=> [s.1,s.2]))++ [p.new.start[z].1]++ [p.new.start[z].2]=L8++(p.new.start.take (z+1)).flatMap (λs=> [s.1,s.2])):=by show _=_;rw[<-List.take_append_getElem m,DU];simp
         have pu:(L8++(p.new.start.take z).flatMap (λs=> [s.1,s.2])).length<=900:=by
          have hl:∀l:List (Int×Int),(l.flatMap (λs=> [s.1,s.2])).length=2*l.length:=λl=>by
           induction l with
           |nil=>rfl
           |cons x l ih=>rw[BZ,fu,ih];simp;omega
          rw[fu,hl,jQ];omega
         obtain⟨LG,Fl⟩:=x_ (L8++(p.new.start.take z).flatMap (λs=> [s.1,s.2]))
         rw[<-Fl]at pu X g;obtain⟨x0,Fr⟩:=x_ (p.new.start[z].1)
         obtain⟨x1,Fs⟩:=x_ (p.new.start[z].2)
         rw[<-Fr]at E8 Y X;rw[<-Fs]at E9 Y X;obtain⟨W7,e7⟩:=x_ (V.alloc (.cells #[.int .i64 x0, .int .i64 x1] 214))
         have E:Hid (ll W.heap.size W4 [(V.heap.size,214,[.int .i64 x0, .int .i64 x1]),(U.heap.size,34,y)] LG W7):=h_ (by rw[e7];exact g.out.new f.out 214 [.int .i64 x0, .int .i64 x1] (by decide));have ge:=fun(Q:Exit->Act->World->Prop) (ops:Array Oper) (rest:List Oper) (o:Oper) (a:Act) (hgd:o.guard=none) (ho:o.op= .store 214 (.tmp 14) (.tmp 125)) (hx:a.eval (.tmp 14)= .pointer (some ⟨V.heap.size,0,none⟩)) (hy:a.eval (.tmp 125)= .agg #[.int .i64 x0, .int .i64 x1]) (ju:Array Value) (hold:ju.size=2)=>
          Hk.aD (P:=Tryz.prog) (ops:=ops) (rest:=rest) (o:=o) (a:=a) (Q:=Q) hgd 214 (.tmp 14) (.tmp 125) ho V.heap.size #[.int .i64 x0, .int .i64 x1] hx hy ju 214 (w:=V) rfl J5.out hold (by simp[Value.oneCell'])
         rw[<-e7]at ge;have At:=h_ ge;have d0:=E.out.at dH (k:=0) rfl;have pl:=E.out.st.c4 f.out;rw[eB];clear i hx Fr Fs Fl e7 ge g;go_wp2_with (refine At.out _ _ _ _ _ rfl rfl rfl rfl _ rfl ?_;simp only[Act.put])
         refine(ll.write E.out f.out _ Y.1 (by omega)).mono ?_;rintro e Ro ⟨rfl,ci⟩;have ip:=h_ ci;have d1:=ci.at dH (k:=1) rfl;have L':=ci.st.c4 f.out;clear ci d0 pl D' E8 E9;go_wp2_with fail;refine(ll.write ip.out f.out _ Y.2 (by simp;omega)).mono ?_;rintro e Nz ⟨rfl,nl⟩;have J':=h_ nl;clear nl d1 L' ip E;go_wp2_with fail
         go_roundw
         case rel=>
          go_light;have key:ll W.heap.size W4 [(U.heap.size,34,y)] (L8++(p.new.start.take (z+1)).flatMap (λs=> [s.1,s.2])) Nz:=by rw[<-X.out];exact J'.out.drop
          first|exact⟨z+1,rfl,m,key⟩|((repeat apply Exists.intro);exact⟨rfl,m,key⟩)
         case measure=>simp[RowKit.intOf];omega
        ·have G': ¬((z:Int)<(p.new.start.length:Int)):=by omega
         obtain⟨vT,cT,⟨AT,nT,N',eT⟩,d7⟩:=g.out.st.text;have hL:Hid (L8++(p.new.start.take z).flatMap (λs=> [s.1,s.2])=p.jc):=by show _=_;rw[m,KK,Ju.out,Jt.out,Js.out,Jr.out,Jh.out,I'.out,EF.out,EG.out];simp[kv.jc,mT.jc]
         have hB:Hid (Below W.heap.size W V):=h_ (g8.out.trans ⟨g.out.st.kp.below.os,g.out.st.kp.below.tape,g.out.st.kp.below.output,g.out.st.kp.below.size,λj hj=>g.out.st.kp.below.block j (by omega)⟩);rw[hL.out]at d7;subst eT;obtain⟨Rm,d8⟩:=x_ (tx (dI++words p.jc))
         rw[<-d8]at d7;have rx:=h_ d8;clear g Hh m D' d8;go_wp2_with fail;all_goals go_ret
         all_goals exact⟨by rw[rx.out];rfl,hB.out⟩
end Go.Proofs.YtkmbmfengcdmoaaGreatDoor
namespace Go.Proofs.YtkmbmfengcdmoaaGreatDoor
open Go.RowKit Go.W32 Go.ay Go.Cs Go.Lib Go.Opn

theorem Kj(p:kv)(h:Hd)(W:World)(i:p.small=false):
  Calls Tryz.prog 77 #[.agg (jL p h).toArray] W λe w'=>e= .returned (.string (tx []))/\Below W.heap.size W w':=by
 obtain⟨j,f⟩:=x_ (jL p h)
 have g:Hid (Row (W.alloc (.cells j.toArray 36)) W.heap.size 36 j):=h_ (Row.new _ _ _);have m:j[1]? =some (.slice h.A p.cl.length h.c):=by rw[f];rfl
 have n:j[6]? =some (.slice h.B p.new.start.length h.d):=by rw[f];rfl
 rw[<-f];clear f;have v:=g.out.at m;have r:=g.out.at n;have q:Hid (Below W.heap.size W (W.alloc (.cells j.toArray 36))):=h_ ((Below.refl _ _).alloc (aL _) _);unfold kv.small at i;rw[Bool.and_eq_false_iff,decide_eq_false_iff_not,decide_eq_false_iff_not]at i;clear g m n;by_cases o:p.cl.length<=400
 ·have u: ¬((400:Int)<(p.cl.length:Int)):=by omega
  have x:(8:Int)<(p.new.start.length:Int):=by rcases i with i|i<;>omega
  clear i o;go_enter Tryz.func77,Tryz.ntmps77;go_wp2_with fail;all_goals go_ret
  all_goals exact⟨rfl,q.out⟩
 ·have u:(400:Int)<(p.cl.length:Int):=by omega
  clear i o r;go_enter Tryz.func77,Tryz.ntmps77;go_wp2_with fail;all_goals go_ret
  all_goals exact⟨rfl,q.out⟩
theorem zN(p:kv)(h:Hd)(W:World)(c:cB W)(f:qE W p h)(d:Cf p):
  Calls Tryz.prog 77 #[.agg (jL p h).toArray] W λe w'=>e= .returned (.string (tx p.text))/\Below W.heap.size W w':=by
 unfold kv.text;cases hs:p.small with
 |true=>have h:=hs;unfold kv.small at h;rw[ua,uD,uD]at h;exact BO p _ W c f d h.1 h.2
 |false=>exact Kj p _ W hs
end Go.Proofs.YtkmbmfengcdmoaaGreatDoor
namespace Go.Mg
open Go Go.RowKit Go.Mk

section
variable {α γ:Type} {enc:α->Value} {ok:α->Prop} {ec:γ->List Value} {w:World} {base:Nat} {T:TypeId} {sz b:Nat} {L:List (α×(Value×List γ))}
variable [DecidableEq α]
end
section
variable {α γ:Type} [DecidableEq α]
end
section
variable {P:Program} {ops:Array Oper} {rest:List Oper} {a:Act} {Q:Exit->Act->World->Prop}
theorem aN(x:Operand){t:TypeId}{y:Operand}{d:Option Tmp}{ty:TypeId}{e:String}{c:Array Edge}{g:Option (Nat×Bool)}{w:World}(h:wpList P ops Q (⟨d, .store t x y,ty,e,c,g⟩::rest) a w):wpList P ops Q (⟨d, .store t x y,ty,e,c,g⟩::rest) a w:=h
theorem aH(x:Operand){t:TypeId}{d:Option Tmp}{ty:TypeId}{e:String}{c:Array Edge}{g:Option (Nat×Bool)}{w:World}(h:wpList P ops Q (⟨d, .load t x,ty,e,c,g⟩::rest) a w):wpList P ops Q (⟨d, .load t x,ty,e,c,g⟩::rest) a w:=h
theorem K9(x:Operand){t:TypeId}{m:Operand}{c:Bool}{d:Option Tmp}{ty:TypeId}{f:String}{e:Array Edge}{g:Option (Nat×Bool)}{w:World}(h:wpList P ops Q (⟨d, .lookup t m x c,ty,f,e,g⟩::rest) a w):wpList P ops Q (⟨d, .lookup t m x c,ty,f,e,g⟩::rest) a w:=h
theorem Cl(x:Operand){c:Bool}{d:Option Tmp}{ty:TypeId}{f:String}{e:Array Edge}{g:Option (Nat×Bool)}{w:World}(h:wpList P ops Q (⟨d, .next x c,ty,f,e,g⟩::rest) a w):wpList P ops Q (⟨d, .next x c,ty,f,e,g⟩::rest) a w:=h
theorem Hj(x:Operand){t:TypeId}{d:Option Tmp}{ty:TypeId}{e:String}{c:Array Edge}{g:Option (Nat×Bool)}{w:World}(h:wpList P ops Q (⟨d, .range t x,ty,e,c,g⟩::rest) a w):wpList P ops Q (⟨d, .range t x,ty,e,c,g⟩::rest) a w:=h
variable {α γ:Type} {enc:α->Value} {ok:α->Prop} {ec:γ->List Value} {w:World} {base:Nat} {T t k s:TypeId} {sz b:Nat} {L:List (α×(Value×List γ))} [DecidableEq α]
end
end Go.Mg
namespace Go.Hk
open Go Go.RowKit
theorem aZ{P:Program}{ops:Array Oper}{rest:List Oper}{o:Oper}{a:Act}{w:World}{Q:Exit->Act->World->Prop}(c:o.guard=none)(ty:TypeId)(x y:Operand)(m:o.op= .store ty x y)
  (g:Nat) (n:a.eval x= .pointer (some ⟨g,0,none⟩)) (new:List Value) (p:a.eval y= .agg new.toArray) (ju:List Value) (t:TypeId) (d:w.heap[g]? =some (.cells ju.toArray t (0,0)))
  (h:(P.info? ty).map (·.size)=some new.length) (i:ju.length=new.length) (e:∀v∈new,v.oneCell'=true)
  (f:∀w',w'.heap[g]? =some (.cells new.toArray t (0,0))->w.grownBy w' (some g)->w'.heap.size=w.heap.size->wpList P ops Q rest (a.put o.dst undef) w'):wpList P ops Q (o::rest) a w:=by
 refine wpList_store_row c ty x y m g new.toArray n p t ju.toArray d (by rw[h];simp) (by simp[i]) (all_oneCell_toArray e) ?_;refine f _ (setRow_heap w g _ _ t _ d) ⟨rfl,rfl,rfl,by simp[World.setRow],λk q j=> ?_⟩ (by simp[World.setRow])
 have:k≠g:=by simpa using j
 simp only[World.setRow,vS];rw[if_neg (nq this)]
theorem aB{P:Program}{fn:Func}{p u:Tmp}{ty:TypeId}{v:Value}(h:fn.results= #[.cell p ty, .tmp u])(tmps:Array Value)(w:World)(g:Nat)(t:TypeId)(cs:Array Value)(f:Nat×Nat)(d:TypeDesc)
  (n:tmps.getD p undef= .pointer (some ⟨g,0,none⟩)) (j:w.heap[g]? =some (.cells cs t f))
  (o:P.underlying ty=some d) (i:(match d with| .struct _| .array _ _=>true|_=>false)=true) (m:(P.info? ty).map (·.size)=some cs.size) (hv:tmps.getD u undef=v):
  (results fn tmps).run P w= .ok (.tuple #[.agg cs,v]) w:=by
 have c:tmps[p]?.getD undef= .pointer (some ⟨g,0,none⟩):=by simpa using n
 have e:tmps[u]?.getD undef=v:=by simpa using hv
 simp[results,h,c,e,asAddr,run_loadVar_row w g t ty cs f d j o i m]
theorem results_cell_row{P:Program}{fn:Func}{p:Tmp}{ty:TypeId}(h:fn.results= #[.cell p ty])(tmps:Array Value)(w:World)(g:Nat)(t:TypeId)(cs:Array Value)(e:Nat×Nat)(d:TypeDesc)
  (m:tmps.getD p undef= .pointer (some ⟨g,0,none⟩)) (i:w.heap[g]? =some (.cells cs t e))
  (n:P.underlying ty=some d) (f:(match d with| .struct _| .array _ _=>true|_=>false)=true) (j:(P.info? ty).map (·.size)=some cs.size):
  (results fn tmps).run P w= .ok (.agg cs) w:=by
 have c:tmps[p]?.getD undef= .pointer (some ⟨g,0,none⟩):=by simpa using m
 simp[results,h,c,asAddr,run_loadVar_row w g t ty cs e d i n f j]
end Go.Hk
namespace Go.Opn
open Go Go.RowKit Go.ChangeShapes Go.WideShapes Go.Deep
section
variable {H:Type} {enc:TypeId×Value->H} {P:Program} {w:World} {base:Nat} {spare:Nat->Bool} {held:Bool}
theorem OY{t e:TypeId}{v:Value}{d:DataW H}{z:List MemPlace}{r:Reach}{u:Nat}(j:P.underlying t=some (.slice e))(hv:Value.okWide P w r u t v)(h:DataW.Trod enc P w base spare held t v d z):
  ∃f x,DataW.trod enc P w base spare held f t [v]=some x:=by
 obtain⟨o,g⟩:=h;have i:∀x:Value,v.cells.toList= [x]->v=x:=by
  intro x q;cases v<;>simp[Value.cells]at q<;>first|exact q|skip
  simp only[Value.okWide,j]at hv;simp[Cell.okWide,Cell.ok,j]at hv
 rcases open_slice j g with⟨p,_⟩|⟨a,len,y,m,n,D,Pl,c,_⟩
 ·rw[p]at g;rw[i _ p];exact⟨_,_,g⟩
 ·rw[c]at g;rw[i _ c];exact⟨_,_,g⟩
theorem vu{α:Type}[Inhabited α]{ec:α->List Value}{K:α->Prop}{t e:TypeId}{v:Value}{f:Nat}{x:DataW H×List MemPlace}(ht:P.underlying t=some (.slice e))(I:0<P.cellsOf e)
  (R:∀(f:Nat) (cs:List Value) (x:DataW H×List MemPlace),DataW.trod enc P w base spare held f e cs=some x->∃a:α,K a/\∀(p:Nat) u,(ec a)[p]? =some u->cs[p]? =some u)
  (h:DataW.trod enc P w base spare held f t [v]=some x):
  ∃(A:Option Addr) (c:Nat) (l:List α),v= .slice A l.length c/\l.length<=9223372036854775807/\l.length<=c/\SL w (P.cellsOf e) ec A l/\∀a∈l,K a:=by
 rcases open_slice ht h with⟨j,_⟩|⟨a,len,G,m,n,D,Pl,O,hb,hl,hm,W,hx,E⟩
 ·cases j
  exact⟨none,0,[],rfl,gu _,gu _,SL.nil,λa ha=>by cases ha⟩
 ·cases O
  have U:∀i,i<len->∃y:α,K y/\∃b d,a=⟨b,d,none⟩/\∀p u,(ec y)[p]? =some u->w.cell? ⟨b,d+(i*P.cellsOf e+p),none⟩=some u:=by
   intro i r;have V:i<m:=by rw[W];split<;>omega
   obtain⟨co,hc,Y⟩:=E i V;obtain⟨_,N,J⟩:=World.cells?_some hc;have hs:a.spot=none:=by
    obtain⟨dl,M,_⟩:=E 0 (by omega);obtain⟨_,bi,B⟩:=World.cells?_some M;have j:=B 0 I;rw[Nat.zero_mul,eH (by omega)]at j;have e0:(a.add 0).add 0=a:=rfl;rw[e0]at j;unfold World.cell? at j;split at j
    ·split at j
     ·cases j
     ·rename_i X;simpa using X
    ·cases j
   obtain⟨y,Z,an⟩:=R _ _ _ Y;obtain⟨b,d,sp⟩:=a;simp only at hs;subst hs;refine⟨y,Z,b,d,rfl,λp u F=> ?_⟩;have C:=an p u F;have hp:p<P.cellsOf e:=by rw[<-N];exact(jS.1 C).1
   have h2:=J p hp;rw[add_add,C]at h2;rw[<-h2];congr 1;unfold Addr.add;split
   ·rename_i hz;rw[hz];rfl
   ·rfl
  obtain⟨g,S⟩:=choose_lt U;unfold maxLen at hm;refine⟨some a,G,(List.range len).map g,by simp,by simp;omega,by simpa using hl,⟨λhn=> ?_⟩,λy Z=> ?_⟩
  ·have I:0<len:=by
    rcases Nat.eq_zero_or_pos len with h|h
    ·subst h;simp at hn
    ·exact h
   obtain⟨_,b,d,hA,_⟩:=S 0 I;refine⟨b,d,by rw[hA],λi y q p u F=> ?_⟩;have r:i<len:=by have:=(jS.1 q).1;simpa using this
   have he:g i=y:=by rw[mx,List.getElem?_range r]at q;simpa using q
   obtain⟨_,b',ci,z,o⟩:=S i r;rw[hA]at z;injection z with e1 e2;subst e1 e2;rw[<-he]at F;exact o p u F
  ·obtain⟨i,E,rfl⟩:=nS.1 Z;exact(S i (R2.1 E)).1
theorem gl{α:Type}[Inhabited α]{ec:α->List Value}{K:α->Prop}{t i e:TypeId}{f d p:Nat}{cs:List Value}{x:DataW H×List MemPlace}(z:P.underlying i=some (.slice e))(j:0<P.cellsOf e)
  (g:∀(f:Nat) (cs:List Value) (x:DataW H×List MemPlace),DataW.trod enc P w base spare held f e cs=some x->∃a:α,K a/\∀(p:Nat) u,(ec a)[p]? =some u->cs[p]? =some u)
  (h:lY P f t p=some i) (B:DataW.trod enc P w base spare held d t cs=some x):
  ∃(A:Option Addr) (c:Nat) (l:List α),cs[p]? =some (.slice A l.length c)/\l.length<=9223372036854775807/\l.length<=c/\SL w (P.cellsOf e) ec A l/\∀a∈l,K a:=by
 obtain⟨v,m,y,hv,C⟩:=leaf f h B;obtain⟨A,c,l,rfl,n,o,q,r⟩:=vu z j g C;exact⟨A,c,l,hv,n,o,q,r⟩
end
end Go.Opn
