/- Slices opened to lists, as arguments and as parts of structs. No condition. -/
import Derived.Test.YtkmbmfengcdmoaaGreatDoorZAJ
import Derived.Deep.WholeRow
import Derived.Test.YtkmbmfengcdmoaaGreatDoorZAI
import Derived.Maps.AppendAt
import Derived.Below
import Derived.Laws.AppendOwn
import Derived.Test.YtkmbmfengcdmoaaGreatDoorZAA
import Derived.Lib.SmallJoins
set_option maxRecDepth 100000
set_option linter.all false
namespace Go.Proofs.YtkmbmfengcdmoaaGreatDoor
open Go.RowKit Go.W32 Go.ay Go.Cs Go.Lib Go.Opn

theorem Mf{p:kv}(h:Cf p):(∀n∈p.cl,cP n)/\cP p.kind/\cP p.days/\(∀n∈p.new.front,cP n)/\(∀n∈p.new.back,cP n)/\∀s∈p.new.start,cP s.1/\cP s.2:=by have h:=h.jc;simp only[kv.jc,mT.jc,zT,lC,PT]at h;refine⟨λn hn=>h n (.inl (.inr hn)),h _ (.inl (.inl (.inl rfl))),h _ (.inl (.inl (.inr (.inl rfl)))),λn hn=>h n (.inr (.inl (.inl (.inl (.inl hn))))),λn hn=>h n (.inr (.inl (.inl (.inr hn)))),λs hs=>⟨h _ (.inr (.inr ⟨s,hs, .inl rfl⟩)),h _ (.inr (.inr ⟨s,hs, .inr (.inl rfl)⟩))⟩⟩
structure ll (n0:Nat) (W4:World) (Rs:List (Nat×TypeId×List Value)) (l:List Int) (w:World):Prop where
 st:my n0 W4 l w
 rows:∀r∈Rs,r.2.1≠5/\r.1≠n0+1+1/\Row w r.1 r.2.1 r.2.2
variable {n0:Nat} {W4 w:World} {Rs:List (Nat×TypeId×List Value)} {l:List Int}
theorem ll.bD{w':World}{l':List Int}(h:ll n0 W4 Rs l w)(h':my n0 W4 l' w')(hk:Kp (n0+1) (n0+1+1) w w'):ll n0 W4 Rs l' w':=
 ⟨h',λr hr=>⟨(h.rows r hr).1,(h.rows r hr).2.1,(h.rows r hr).2.2.kept hk (h.rows r hr).1 (h.rows r hr).2.1⟩⟩
theorem ll.write(h:ll n0 W4 Rs l w)(hw:TW n0 W4)(n:Int)(hn:cP n)(hl:l.length<=1000):
  Calls Tryz.prog 121 #[.int .i64 n, .pointer (some ⟨n0+1+1,0,none⟩)] w λe w'=>e= .returned (.tuple #[])/\ll n0 W4 Rs (l++ [n]) w':=
 (h.st.write hw n hn hl).mono λ_ _ ⟨h1,h2,h3⟩=>⟨h1,h.bD h2 h3⟩
theorem ll.flag(h:ll n0 W4 Rs l w)(hw:TW n0 W4)(x:Bool)(hl:l.length<=1000):
  Calls Tryz.prog 123 #[.bool x, .pointer (some ⟨n0+1+1+1,0,none⟩)] w λe w'=>e= .returned (.tuple #[])/\ll n0 W4 Rs (l++ [Eb x]) w':=
 (h.st.flag hw x hl).mono λ_ _ ⟨h1,h2,h3⟩=>⟨h1,h.bD h2 h3⟩
theorem my.T4(h:my n0 W4 l w):n0+1+1<w.heap.size:=by obtain⟨v,h1,_⟩:=h.out;exact(iS.1 h1).1
theorem ll.new(h:ll n0 W4 Rs l w)(hw:TW n0 W4)(T:TypeId)(cs:List Value)(hT:T≠5):ll n0 W4 ((w.heap.size,T,cs)::Rs) l (w.alloc (.cells cs.toArray T)):=
 ⟨h.st.alloc hw _,λr hr=>by
  rcases lC.1 hr with rfl|hr
  ·exact⟨hT,by have:=h.st.T4;show w.heap.size≠_;omega,Row.new w T cs⟩
  ·exact⟨(h.rows r hr).1,(h.rows r hr).2.1,(h.rows r hr).2.2.alloc _⟩⟩
theorem ll.drop{r:Nat×TypeId×List Value}(h:ll n0 W4 (r::Rs) l w):ll n0 W4 Rs l w:=⟨h.st,λr' hr=>h.rows r' (by simp[hr])⟩
theorem ll.at(h:ll n0 W4 Rs l w){b k:Nat}{T:TypeId}{cs:List Value}(hr:(b,T,cs)∈Rs){v:Value}(hv:cs[k]? =some v):w.cell? ⟨b,k,none⟩=some v:=(h.rows _ hr).2.2.at hv
theorem my.ju{W:World}(h:my n0 W4 l w)(hb:Below n0 W W4){q:Addr}(hq:q.block<n0):w.cell? q=W.cell? q:=
 (hb.trans ⟨h.kp.below.os,h.kp.below.tape,h.kp.below.output,fO (aL _) h.kp.below.size,λj hj=>h.kp.below.block j (by omega)⟩).cell hq
def iv(n:Int):Value:= .int .i64 n
def IA(k:mT):List Value:=k.front.map iv
def Ni(k:mT):List Value:=k.back.map iv
theorem Jf{xs:List Int}{k:Nat}(h:k<xs.length):(xs.map iv)[k]? =some (.int .i64 xs[k]):=by rw[mx,eH h];rfl

set_option maxHeartbeats 4000000 in
theorem BO(p:kv)(h:Hd)(W:World)(hT:cB W)(hp:qE W p h)(ho:Cf p)(hcl:p.cl.length<=400)(hst:p.new.start.length<=8):
  Calls Tryz.prog 77 #[.agg (jL p h).toArray] W λe w'=>e= .returned (.string (tx (dI++words p.jc)))/\Below W.heap.size W w':=by
 obtain⟨okcl,okk,okd,okf,okb,oks⟩:=Mf ho;obtain⟨F,eF⟩:=x_ p.new.front
 obtain⟨G,eG⟩:=x_ p.new.back
 have lF:F.length=6:=by rw[eF];rfl
 have lG:G.length=6:=by rw[eG];rfl
 rw[<-eF]at okf;rw[<-eG]at okb;have EF:=h_ eF;have EG:=h_ eG;clear eF eG;obtain⟨cs,ecs⟩:=x_ (jL p h)
 have HR0:Hid (Row (W.alloc (.cells cs.toArray 36)) W.heap.size 36 cs):=h_ (Row.new _ _ _);have g0:cs[0]? =some (.int .i64 p.kind):=by rw[ecs];rfl
 have g1:cs[1]? =some (.slice h.A p.cl.length h.c):=by rw[ecs];rfl
 have g6:cs[6]? =some (.slice h.B p.new.start.length h.d):=by rw[ecs];rfl
 have g18:cs[18]? =some (.int .i64 p.days):=by rw[ecs];rfl
 obtain⟨ks,eks⟩:=x_ (nA p.new (.slice h.B p.new.start.length h.d))
 have gm:∀j v,ks[j]? =some v->cs[2+j]? =some v:=λj v hj=>by
  rw[ecs];rw[eks]at hj
  have:j<16:=(jS.1 hj).1
  match j,this with
  |0,_|1,_|2,_|3,_|4,_|5,_|6,_|7,_|8,_|9,_|10,_|11,_|12,_|13,_|14,_|15,_=>exact hj
 rw[<-ecs];have kg:∀(j:Nat) (v:Value),(nA p.new (.slice h.B p.new.start.length h.d))[j]? =some v->ks[j]? =some v:=λj v hj=>by rw[eks];exact hj
 have KG:=h_ kg;have HIK:Hid ((Tryz.prog.info? 34).map (·.size)=some ks.length):=by show _=_;rw[eks];kernel_rfl
 have H1K:Hid (ks.toArray.all (·.oneCell')=true):=all_oneCell_toArray (λv hv=>sy _ _ rfl v (by rw[<-eks];exact hv));clear kg;have HIC:Hid ((Tryz.prog.info? 214).map (·.size)=some 2):=by show _=_;kernel_rfl
 have ECS:=h_ ecs;have GM:=h_ gm;have KL:Hid (ks.length=16):=by show _=_;rw[eks];rfl
 clear ecs eks gm;have c0:=HR0.out.at g0;have c1:=HR0.out.at g1;have c6:=HR0.out.at g6;have k1: ¬((400:Int)<(p.cl.length:Int)):=by omega
 have k2: ¬((8:Int)<(p.new.start.length:Int)):=by omega
 have kc:=fun(C:Array Value) (n c:Nat)=>Lib.run_convert_bytes_const (P:=Tryz.prog) (W.alloc (.cells cs.toArray 36)) 117 5 C n c Tryz.underlying117 Tryz.underlying5
 rw[show(W.alloc (.cells cs.toArray 36)).heap.size=W.heap.size+1 by simp]at kc;obtain⟨W3,e3⟩:=x_ (((W.alloc (.cells cs.toArray 36)).alloc (.cells #[.int .u8 112, .int .u8 97, .int .u8 116, .int .u8 99, .int .u8 104] 5 (5,6))).alloc (.cells #[.slice (some ⟨W.heap.size+1,0,none⟩) 5 5] 117))
 have z3:W3.heap.size=W.heap.size+1+1+1:=by rw[e3];simp
 obtain⟨W4,e4⟩:=x_ (W3.alloc (.cells #[.func (.func 121) #[] #[.pointer (some ⟨W.heap.size+1+1,0,none⟩)]] 211))
 have hb34:Below W.heap.size W W4:=by rw[e4,e3];exact((((Below.refl _ _).alloc (aL _) _).alloc (by simp) _).alloc (by simp;omega) _).alloc (by simp;omega) _
 have hr3:Row W3 (W.heap.size+1+1) 117 [.slice (some ⟨W.heap.size+1,0,none⟩) 5 5]:=by have:=Row.new ((W.alloc (.cells cs.toArray 36)).alloc (.cells #[.int .u8 112, .int .u8 97, .int .u8 116, .int .u8 99, .int .u8 104] 5 (5,6))) 117 [.slice (some ⟨W.heap.size+1,0,none⟩) 5 5];rw[e3];simpa using this
 have hr4:Row W4 (W.heap.size+1+1+1) 211 [.func (.func 121) #[] #[.pointer (some ⟨W.heap.size+1+1,0,none⟩)]]:=by have:=Row.new W3 211 [.func (.func 121) #[] #[.pointer (some ⟨W.heap.size+1+1,0,none⟩)]];rw[z3]at this;rw[e4];exact this
 have hrP:Row W4 W.heap.size 36 cs:=by rw[e4,e3];exact((HR0.out.alloc _).alloc _).alloc _
 have hr3':Row W4 (W.heap.size+1+1) 117 [.slice (some ⟨W.heap.size+1,0,none⟩) 5 5]:=by rw[e4];exact hr3.alloc _
 have hlit:∀j u,(byteCells dI)[j]? =some u->W4.cell? ⟨W.heap.size+1,j,none⟩=some u:=by
  intro j u hu;have h0:((W.alloc (.cells cs.toArray 36)).alloc (.cells #[.int .u8 112, .int .u8 97, .int .u8 116, .int .u8 99, .int .u8 104] 5 (5,6))).heap[W.heap.size+1]? =some (.cells #[.int .u8 112, .int .u8 97, .int .u8 116, .int .u8 99, .int .u8 104] 5 (5,6)):=by
   have:=(MapKept.heap_alloc (W.alloc (.cells cs.toArray 36)) (.cells #[.int .u8 112, .int .u8 97, .int .u8 116, .int .u8 99, .int .u8 104] 5 (5,6))).1
   rwa[show(W.alloc (.cells cs.toArray 36)).heap.size=W.heap.size+1 by simp]at this
  have h1:W4.heap[W.heap.size+1]? =some (.cells #[.int .u8 112, .int .u8 97, .int .u8 116, .int .u8 99, .int .u8 104] 5 (5,6)):=by rw[e4,(MapKept.heap_alloc W3 _).2 _ (by omega),e3,(MapKept.heap_alloc _ _).2 _ (by simp)];exact h0
  rw[cell_of_row W4 _ j _ 5 (5,6) h1, <-Array.getElem?_toList];exact hu
 have hTW:TW W.heap.size W4:=⟨by have:=hb34.size;rw[e4];simp[z3],λw' hw'=>by
  have:Below W.heap.size W w':=hb34.trans ⟨hw'.os,hw'.tape,hw'.output,hw'.size,λk hk=>hw'.block k (by omega)⟩;exact hT.RR w' this,hr4⟩
 obtain⟨We,eWe⟩:=x_ ((((W.alloc (.cells cs.toArray 36)).alloc (.cells #[.int .u8 112, .int .u8 97, .int .u8 116, .int .u8 99, .int .u8 104] 5 (5,6))).alloc (.cells #[.slice (some ⟨W.heap.size+1,0,none⟩) 5 5] 117)).alloc (.cells #[.func (.func 121) #[] #[.pointer (some ⟨W.heap.size+1+1,0,none⟩)]] 211))
 have e4e:We=W4:=by rw[eWe,e4,e3]
 have CF:Calls Tryz.prog 121 #[.int .i64 p.kind, .pointer (some ⟨W.heap.size+1+1,0,none⟩)] We λe w'=>e= .returned (.tuple #[])/\Hid (my W.heap.size W4 [p.kind] w'):=by rw[e4e];exact(my.first hTW p.kind okk hr3' hlit).mono λ_ _ h=>⟨h.1,h_ h.2⟩
 rw[eWe]at CF;have stf:=Gq Tryz.prog W3 .nilFunc (.func (.func 121) #[] #[.pointer (some ⟨W.heap.size+1+1,0,none⟩)]) 211 rfl;rw[z3,e3]at stf;have HTW:=h_ hTW;have HRP:=h_ hrP;have HB4:=h_ hb34;have ROWS:Hid (∀l w,my W.heap.size W4 l w->w.cell? ⟨W.heap.size+1+1+1,0,none⟩=some (.func (.func 121) #[] #[.pointer (some ⟨W.heap.size+1+1,0,none⟩)])/\Row w W.heap.size 36 cs):=
  h_ λl w h=>⟨h.c4 hTW,h.row hrP (by decide) (by omega)⟩
 clear e4 e3 hTW hrP hb34 hr3 hr4 hr3' hlit z3 eWe e4e;go_enter Tryz.func77,Tryz.ntmps77;go_wp2_with fail;refine CF.mono ?_;rintro e w5 ⟨rfl,HS5⟩;obtain⟨c45,r5⟩:=ROWS.out _ _ HS5.out;have c185:=r5.at g18;clear CF stf kc c0 c1 c6;go_wp2_with fail;refine(my.write HS5.out HTW.out _ okd (by simp)).mono ?_;rintro e w6 ⟨rfl,hs6,kp6⟩;have HS6:=h_ hs6;obtain⟨c46,r6⟩:=ROWS.out _ _ hs6;have c16:=r6.at g1;clear hs6 c45 r5;go_wp2_with fail;clear kp6 c185;refine(my.write HS6.out HTW.out _ (by unfold cP;omega) (by simp)).mono ?_;rintro e w7 ⟨rfl,hs7,kp7⟩;have HS7:=h_ hs7;obtain⟨c47,r7⟩:=ROWS.out _ _ hs7;have c17:=r7.at g1;clear hs7 c46 r6;go_wp2_with fail;clear kp7 c16;obtain⟨L3,eL3⟩:=x_ ([p.kind]++ [p.days]++ [(p.cl.length:Int)])
 have lL3:L3.length=3:=by rw[eL3];rfl
 rw[<-eL3]at HS7;have EL3:=h_ eL3;clear eL3
 go_loopw [46] (λv wr=> ∃k:Nat,v= .int .i64 (k:Int)/\k<=p.cl.length/\my W.heap.size W4 (L3++p.cl.take k) wr) (λv _=>(p.cl.length:Int).toNat- (RowKit.intOf v).toNat)
 case atStart=>exact⟨0,rfl,gu _,by rw[dT,DS];exact HS7.out⟩
 case round=>
  clear HS7 c47 r7 c17;obtain⟨k,rfl,hk,hsr⟩:=hrel;have HSR:=h_ hsr;obtain⟨c4r,rr⟩:=ROWS.out _ _ hsr;clear hsr rr;rcases pC hk with hkl|hkl
  ·have hkd:(k:Int)<(p.cl.length:Int):=by omega
   have hx:p.cl[k]? =some p.cl[k]:=eH hkl;obtain⟨bA,off,eA,hcell⟩:=hp.cl.at_ hx;have cx:wr.cell? ⟨bA,off+k,none⟩=some (.int .i64 p.cl[k]):=by have:=hcell 0 _ rfl;rw[KJ,KO]at this;have hb:=World.block_lt_of_cell? W _ this;rw[((HB4.out.trans ⟨HSR.out.kp.below.os,HSR.out.kp.below.tape,HSR.out.kp.below.output,HSR.out.kp.below.size,λj hj=>HSR.out.kp.below.block j (by omega)⟩)).cell (p:=⟨bA,off+k,none⟩) hb];exact this
   have okx:=okcl _ (KM hkl);have htk:Hid ((L3++p.cl.take k)++ [p.cl[k]]=L3++p.cl.take (k+1)):=by show _=_;rw[List.append_assoc, <-List.take_append_getElem hkl]
   obtain⟨x,ex⟩:=x_ (p.cl[k])
   rw[<-ex]at cx okx htk;have hlk:(L3++p.cl.take k).length<=1000:=by simp[lL3];omega
   rw[eA];clear hcell hx ex;go_wp2_with fail;refine(my.write HSR.out HTW.out _ okx hlk).mono ?_;rintro e w8 ⟨rfl,hs8, -⟩;have HS8:=h_ hs8;clear hs8 c4r cx;go_wp2_with fail
   go_roundw
   case rel=>
    go_light;have key:my W.heap.size W4 (L3++p.cl.take (k+1)) w8:=by rw[<-htk.out];exact HS8.out
    first|exact⟨k+1,rfl,hkl,key⟩|((repeat apply Exists.intro);exact⟨rfl,hkl,key⟩)
   case measure=>simp[RowKit.intOf];omega
  ·have hkd: ¬((k:Int)<(p.cl.length:Int)):=by omega
   have hsz:Hid (my W.heap.size W4 (L3++p.cl) wr):=by have:=HSR.out;rw[hkl,KK]at this;exact this
   obtain⟨c4z,rz⟩:=ROWS.out _ _ hsz.out;have HMS:=h_ (rz.range GM.out);obtain⟨L4,eL4⟩:=x_ (L3++p.cl)
   have lL4:L4.length<=403:=by rw[eL4];simp[lL3];omega
   rw[<-eL4]at hsz;have EL4:=h_ eL4;obtain⟨wA,rfl⟩:=x_ wr
   obtain⟨W5,e5⟩:=x_ (wA.alloc (.cells ks.toArray 34))
   have z5:Hid (W5.heap.size=wA.heap.size+1):=by show _=_;rw[e5];simp
   have HS5:Hid (ll W.heap.size W4 [(wA.heap.size,34,ks)] L4 W5):=h_ (by rw[e5];exact ll.new ⟨hsz.out,λr hr=>by cases hr⟩ HTW.out 34 ks (by decide));have hst:=fun(Q:Exit->Act->World->Prop) (ops:Array Oper) (rest:List Oper) (o:Oper) (a:Act) (hgd:o.guard=none) (ho:o.op= .store 34 (.tmp 8) (.tmp 55)) (hx:a.eval (.tmp 8)= .pointer (some ⟨wA.heap.size,0,none⟩)) (hy:a.eval (.tmp 55)= .agg ks.toArray) (ju:Array Value) (hold:ju.size=ks.toArray.size)=>
    Hk.aD (P:=Tryz.prog) (ops:=ops) (rest:=rest) (o:=o) (a:=a) (Q:=Q) hgd 34 (.tmp 8) (.tmp 55) ho wA.heap.size ks.toArray hx hy ju 34 (w:=wA) rfl (by rw[HIK.out];simp) hold H1K.out
   rw[<-e5]at hst;have HST:=h_ hst;have kk0:=HS5.out.at dH (KG.out 0 _ rfl);have kk1:=HS5.out.at dH (KG.out 1 _ rfl);have kk2:=HS5.out.at dH (KG.out 2 _ rfl);have kk3:=HS5.out.at dH (KG.out 3 _ rfl);have kk5:=HS5.out.at dH (KG.out 5 _ rfl);have kk6:=HS5.out.at dH (KG.out 6 _ rfl);have HS6:Hid (ll W.heap.size W4 [(W5.heap.size,3,F.map iv),(wA.heap.size,34,ks)] L4 (W5.alloc (.cells (IA p.new).toArray 3))):=h_ (by rw[EF.out];exact HS5.out.new HTW.out 3 (IA p.new) (by decide));clear HSR hk hkl eL4 rz c4z e5 hst hsz;go_wp2_with (first|(with_reducible refine wpList_load_mid rfl 34 (.tmp 54) rfl W.heap.size 2 rfl ks _ HMS.out Tryz.underlying34 rfl HIK.out ?_)|(refine HST.out _ _ _ _ _ rfl rfl rfl rfl _ (by simp[KL.out]) ?_;simp only[Act.put]))
   go_loopw [70] (λv wra=> ∃k:Nat,v= .int .i64 (k:Int)/\k<=6/\ll W.heap.size W4 [(W5.heap.size,3,F.map iv),(wA.heap.size,34,ks)] (L4++F.take k) wra) (λv _=>(6:Int).toNat- (RowKit.intOf v).toNat)
   case atStart=>exact⟨0,rfl,gu _,by rw[dT,DS];exact HS6.out⟩
   case round=>
    clear HS6;obtain⟨ka,rfl,hka,hsra⟩:=hrel;obtain⟨wra,rfl⟩:=x_ wr
    have HSRa:=h_ hsra;have c4a:=hsra.st.c4 HTW.out;clear hsra;rcases pC hka with hkla|hkla
    ·have hkda:(ka:Int)<6:=by omega
     have cxa:=HSRa.out.at dH (Jf (show ka<F.length by omega));have okxa:=okf _ (KM (show ka<F.length by omega));have htka:Hid ((L4++F.take ka)++ [F[ka]]=L4++F.take (ka+1)):=by show _=_;rw[List.append_assoc, <-List.take_append_getElem (show ka<F.length by omega)]
     have hlka:(L4++F.take ka).length<=1000:=by rw[fu,jQ];omega
     obtain⟨xa,exa⟩:=x_ (F[ka])
     rw[<-exa]at cxa okxa htka;clear exa;go_wp2_with fail;refine(ll.write HSRa.out HTW.out _ okxa hlka).mono ?_;rintro e w8a ⟨rfl,hs8a⟩;have HS8a:=h_ hs8a;clear hs8a c4a cxa;go_wp2_with fail
     go_roundw
     case rel=>
      go_light;have key:ll W.heap.size W4 [(W5.heap.size,3,F.map iv),(wA.heap.size,34,ks)] (L4++F.take (ka+1)) w8a:=by rw[<-htka.out];exact HS8a.out
      first|exact⟨ka+1,rfl,hkla,key⟩|((repeat apply Exists.intro);exact⟨rfl,hkla,key⟩)
     case measure=>simp[RowKit.intOf];omega
    ·have hkda: ¬((ka:Int)<6):=by omega
     have hsza:ll W.heap.size W4 [(wA.heap.size,34,ks)] (L4++F) wra:=by have:=HSRa.out.drop;rw[hkla,show(6:Nat)=F.length from lF.symm,KK]at this;exact this
     obtain⟨L5,eL5⟩:=x_ (L4++F)
     have lL5:L5.length<=409:=by rw[eL5,fu];omega
     rw[<-eL5]at hsza;have EL5:=h_ eL5;have HSB:=h_ hsza;have kk7:=hsza.at dH (KG.out 7 _ rfl);clear HSRa hsza hka hkla eL5;go_wp2_with fail;refine(ll.flag HSB.out HTW.out _ (by omega)).mono ?_;rintro e wb ⟨rfl,hsb⟩;have HSC:=h_ hsb;have c4b:=hsb.st.c4 HTW.out;have kk8:=hsb.at dH (KG.out 8 _ rfl);clear hsb c4a kk7;go_wp2_with fail;refine(ll.flag HSC.out HTW.out _ (by simp;omega)).mono ?_;rintro e wc ⟨rfl,hsc⟩;obtain⟨L6,eL6⟩:=x_ (L5++ [Eb p.new.PH]++ [Eb p.new.fin])
     have lL6:L6.length<=411:=by rw[eL6];simp;omega
     rw[<-eL6]at hsc;have EL6:=h_ eL6;have HSD:=h_ hsc;have c4c:=hsc.st.c4 HTW.out;have kk9:=hsc.at dH (KG.out 9 _ rfl);have kk10:=hsc.at dH (KG.out 10 _ rfl);have kk11:=hsc.at dH (KG.out 11 _ rfl);have kk12:=hsc.at dH (KG.out 12 _ rfl);have kk13:=hsc.at dH (KG.out 13 _ rfl);have kk14:=hsc.at dH (KG.out 14 _ rfl);have HSE:Hid (ll W.heap.size W4 [(wc.heap.size,3,G.map iv),(wA.heap.size,34,ks)] L6 (wc.alloc (.cells (Ni p.new).toArray 3))):=h_ (by rw[EG.out];exact hsc.new HTW.out 3 (Ni p.new) (by decide));clear hsc c4b kk8 eL6 HSB HSC;go_wp2_with fail
     go_loopw [102] (λv wrd=> ∃k:Nat,v= .int .i64 (k:Int)/\k<=6/\ll W.heap.size W4 [(wc.heap.size,3,G.map iv),(wA.heap.size,34,ks)] (L6++G.take k) wrd) (λv _=>(6:Int).toNat- (RowKit.intOf v).toNat)
     case atStart=>exact⟨0,rfl,gu _,by rw[dT,DS];exact HSE.out⟩
     case round=>
      clear HSE;obtain⟨kd,rfl,hkd,hsrd⟩:=hrel;obtain⟨wrd,rfl⟩:=x_ wr
      have HSRd:=h_ hsrd;have c4d:=hsrd.st.c4 HTW.out;clear hsrd;rcases pC hkd with hkld|hkld
      ·have hkdd:(kd:Int)<6:=by omega
       have cxd:=HSRd.out.at dH (Jf (show kd<G.length by omega));have okxd:=okb _ (KM (show kd<G.length by omega));have htkd:Hid ((L6++G.take kd)++ [G[kd]]=L6++G.take (kd+1)):=by show _=_;rw[List.append_assoc, <-List.take_append_getElem (show kd<G.length by omega)]
       have hlkd:(L6++G.take kd).length<=1000:=by rw[fu,jQ];omega
       obtain⟨xd,exd⟩:=x_ (G[kd])
       rw[<-exd]at cxd okxd htkd;clear exd;go_wp2_with fail;refine(ll.write HSRd.out HTW.out _ okxd hlkd).mono ?_;rintro e w8d ⟨rfl,hs8d⟩;have HS8d:=h_ hs8d;clear hs8d c4d cxd;go_wp2_with fail
       go_roundw
       case rel=>
        go_light;have key:ll W.heap.size W4 [(wc.heap.size,3,G.map iv),(wA.heap.size,34,ks)] (L6++G.take (kd+1)) w8d:=by rw[<-htkd.out];exact HS8d.out
        first|exact⟨kd+1,rfl,hkld,key⟩|((repeat apply Exists.intro);exact⟨rfl,hkld,key⟩)
       case measure=>simp[RowKit.intOf];omega
      ·have hkdd: ¬((kd:Int)<6):=by omega
       have hszd:ll W.heap.size W4 [(wA.heap.size,34,ks)] (L6++G) wrd:=by have:=HSRd.out.drop;rw[hkld,show(6:Nat)=G.length from lG.symm,KK]at this;exact this
       obtain⟨L7,eL7⟩:=x_ (L6++G)
       have lL7:L7.length<=417:=by rw[eL7,fu];omega
       rw[<-eL7]at hszd;have EL7:=h_ eL7;have HSF:=h_ hszd;have kk15:=hszd.at dH (KG.out 15 _ rfl);clear HSRd hszd hkd hkld eL7;go_wp2_with fail;refine(ll.flag HSF.out HTW.out _ (by omega)).mono ?_;rintro e we ⟨rfl,hse⟩;have HSG:=h_ hse;have c4e:=hse.st.c4 HTW.out;have kk4:=hse.at dH (KG.out 4 _ rfl);clear hse c4d kk15 HSF;go_wp2_with fail;refine(ll.write HSG.out HTW.out _ (by unfold cP;omega) (by simp;omega)).mono ?_;rintro e wf ⟨rfl,hsf⟩;obtain⟨L8,eL8⟩:=x_ (L7++ [Eb p.new.qx]++ [(p.new.start.length:Int)])
       have lL8:L8.length<=419:=by rw[eL8];simp;omega
       rw[<-eL8]at hsf;have EL8:=h_ eL8;have HSH:=h_ hsf;have c4f:=hsf.st.c4 HTW.out;have kk4f:=hsf.at dH (KG.out 4 _ rfl);clear hsf c4e kk4 eL8 HSG;go_wp2_with fail
       go_loopw [122] (λv wr=> ∃k:Nat,v= .int .i64 (k:Int)/\k<=p.new.start.length/\ll W.heap.size W4 [(wA.heap.size,34,ks)] (L8++(p.new.start.take k).flatMap (λs=> [s.1,s.2])) wr) (λv _=>(p.new.start.length:Int).toNat- (RowKit.intOf v).toNat)
       case atStart=>exact⟨0,rfl,gu _,by rw[dT,Se,DS];exact HSH.out⟩
       case round=>
        clear HSH;obtain⟨kg,rfl,hkg,hsrg⟩:=hrel;obtain⟨wrg,rfl⟩:=x_ wr
        have HSRg:=h_ hsrg;have c4g:=hsrg.st.c4 HTW.out;clear hsrg;rcases pC hkg with hklg|hklg
        ·have hkdg:(kg:Int)<(p.new.start.length:Int):=by omega
         have hx:p.new.start[kg]? =some p.new.start[kg]:=eH hklg;obtain⟨bB,off,eB,hcell⟩:=hp.st.at_ hx;have cx0:wrg.cell? ⟨bB,off+kg*2,none⟩=some (.int .i64 p.new.start[kg].1):=by have:=hcell 0 _ rfl;rw[KO]at this;rw[HSRg.out.st.ju HB4.out (World.block_lt_of_cell? W _ this)];exact this
         have cx1:wrg.cell? ⟨bB,off+kg*2+1,none⟩=some (.int .i64 p.new.start[kg].2):=by have:=hcell 1 _ rfl;rw[<-Nat.add_assoc]at this;rw[HSRg.out.st.ju HB4.out (World.block_lt_of_cell? W _ this)];exact this
         have okx:=oks _ (KM hklg);have htk:Hid ((L8++(p.new.start.take kg).flatMap (λs=> [s.1,s.2]))++ [p.new.start[kg].1]++ [p.new.start[kg].2]=L8++(p.new.start.take (kg+1)).flatMap (λs=> [s.1,s.2])):=by show _=_;rw[<-List.take_append_getElem hklg,DU];simp
         have hlk:(L8++(p.new.start.take kg).flatMap (λs=> [s.1,s.2])).length<=900:=by
          have hl:∀l:List (Int×Int),(l.flatMap (λs=> [s.1,s.2])).length=2*l.length:=λl=>by
           induction l with
           |nil=>rfl
           |cons x l ih=>rw[BZ,fu,ih];simp;omega
          rw[fu,hl,jQ];omega
         obtain⟨LG,eLG⟩:=x_ (L8++(p.new.start.take kg).flatMap (λs=> [s.1,s.2]))
         rw[<-eLG]at hlk htk HSRg;obtain⟨x0,ex0⟩:=x_ (p.new.start[kg].1)
         obtain⟨x1,ex1⟩:=x_ (p.new.start[kg].2)
         rw[<-ex0]at cx0 okx htk;rw[<-ex1]at cx1 okx htk;obtain⟨W7,e7⟩:=x_ (wrg.alloc (.cells #[.int .i64 x0, .int .i64 x1] 214))
         have HS7:Hid (ll W.heap.size W4 [(wrg.heap.size,214,[.int .i64 x0, .int .i64 x1]),(wA.heap.size,34,ks)] LG W7):=h_ (by rw[e7];exact HSRg.out.new HTW.out 214 [.int .i64 x0, .int .i64 x1] (by decide));have hst7:=fun(Q:Exit->Act->World->Prop) (ops:Array Oper) (rest:List Oper) (o:Oper) (a:Act) (hgd:o.guard=none) (ho:o.op= .store 214 (.tmp 14) (.tmp 125)) (hx:a.eval (.tmp 14)= .pointer (some ⟨wrg.heap.size,0,none⟩)) (hy:a.eval (.tmp 125)= .agg #[.int .i64 x0, .int .i64 x1]) (ju:Array Value) (hold:ju.size=2)=>
          Hk.aD (P:=Tryz.prog) (ops:=ops) (rest:=rest) (o:=o) (a:=a) (Q:=Q) hgd 214 (.tmp 14) (.tmp 125) ho wrg.heap.size #[.int .i64 x0, .int .i64 x1] hx hy ju 214 (w:=wrg) rfl HIC.out hold (by simp[Value.oneCell'])
         rw[<-e7]at hst7;have HST7:=h_ hst7;have d0:=HS7.out.at dH (k:=0) rfl;have c47:=HS7.out.st.c4 HTW.out;rw[eB];clear hcell hx ex0 ex1 eLG e7 hst7 HSRg;go_wp2_with (refine HST7.out _ _ _ _ _ rfl rfl rfl rfl _ rfl ?_;simp only[Act.put])
         refine(ll.write HS7.out HTW.out _ okx.1 (by omega)).mono ?_;rintro e w8g ⟨rfl,hs8g⟩;have HS8:=h_ hs8g;have d1:=hs8g.at dH (k:=1) rfl;have c48:=hs8g.st.c4 HTW.out;clear hs8g d0 c47 c4g cx0 cx1;go_wp2_with fail;refine(ll.write HS8.out HTW.out _ okx.2 (by simp;omega)).mono ?_;rintro e w9g ⟨rfl,hs9g⟩;have HS9:=h_ hs9g;clear hs9g d1 c48 HS8 HS7;go_wp2_with fail
         go_roundw
         case rel=>
          go_light;have key:ll W.heap.size W4 [(wA.heap.size,34,ks)] (L8++(p.new.start.take (kg+1)).flatMap (λs=> [s.1,s.2])) w9g:=by rw[<-htk.out];exact HS9.out.drop
          first|exact⟨kg+1,rfl,hklg,key⟩|((repeat apply Exists.intro);exact⟨rfl,hklg,key⟩)
         case measure=>simp[RowKit.intOf];omega
        ·have hkdg: ¬((kg:Int)<(p.new.start.length:Int)):=by omega
         obtain⟨vT,cT,⟨AT,nT,capT,eT⟩,convT⟩:=HSRg.out.st.text;have hL:Hid (L8++(p.new.start.take kg).flatMap (λs=> [s.1,s.2])=p.jc):=by show _=_;rw[hklg,KK,EL8.out,EL7.out,EL6.out,EL5.out,EL4.out,EL3.out,EF.out,EG.out];simp[kv.jc,mT.jc]
         have hB:Hid (Below W.heap.size W wrg):=h_ (HB4.out.trans ⟨HSRg.out.st.kp.below.os,HSRg.out.st.kp.below.tape,HSRg.out.st.kp.below.output,HSRg.out.st.kp.below.size,λj hj=>HSRg.out.st.kp.below.block j (by omega)⟩);rw[hL.out]at convT;subst eT;obtain⟨res,eres⟩:=x_ (tx (dI++words p.jc))
         rw[<-eres]at convT;have ERES:=h_ eres;clear HSRg hkg hklg c4g eres;go_wp2_with fail;all_goals go_ret
         all_goals exact⟨by rw[ERES.out];rfl,hB.out⟩
end Go.Proofs.YtkmbmfengcdmoaaGreatDoor
namespace Go.Proofs.YtkmbmfengcdmoaaGreatDoor
open Go.RowKit Go.W32 Go.ay Go.Cs Go.Lib Go.Opn

theorem Kj(p:kv)(h:Hd)(W:World)(hs:p.small=false):
  Calls Tryz.prog 77 #[.agg (jL p h).toArray] W λe w'=>e= .returned (.string (tx []))/\Below W.heap.size W w':=by
 obtain⟨cs,ecs⟩:=x_ (jL p h)
 have HR0:Hid (Row (W.alloc (.cells cs.toArray 36)) W.heap.size 36 cs):=h_ (Row.new _ _ _);have g1:cs[1]? =some (.slice h.A p.cl.length h.c):=by rw[ecs];rfl
 have g6:cs[6]? =some (.slice h.B p.new.start.length h.d):=by rw[ecs];rfl
 rw[<-ecs];clear ecs;have c1:=HR0.out.at g1;have c6:=HR0.out.at g6;have hb:Hid (Below W.heap.size W (W.alloc (.cells cs.toArray 36))):=h_ ((Below.refl _ _).alloc (aL _) _);unfold kv.small at hs;rw[Bool.and_eq_false_iff,decide_eq_false_iff_not,decide_eq_false_iff_not]at hs;clear HR0 g1 g6;by_cases h1:p.cl.length<=400
 ·have k1: ¬((400:Int)<(p.cl.length:Int)):=by omega
  have k2:(8:Int)<(p.new.start.length:Int):=by rcases hs with hs|hs<;>omega
  clear hs h1;go_enter Tryz.func77,Tryz.ntmps77;go_wp2_with fail;all_goals go_ret
  all_goals exact⟨rfl,hb.out⟩
 ·have k1:(400:Int)<(p.cl.length:Int):=by omega
  clear hs h1 c6;go_enter Tryz.func77,Tryz.ntmps77;go_wp2_with fail;all_goals go_ret
  all_goals exact⟨rfl,hb.out⟩
theorem zN(p:kv)(h:Hd)(W:World)(hT:cB W)(hp:qE W p h)(ho:Cf p):
  Calls Tryz.prog 77 #[.agg (jL p h).toArray] W λe w'=>e= .returned (.string (tx p.text))/\Below W.heap.size W w':=by
 unfold kv.text;cases hs:p.small with
 |true=>have h:=hs;unfold kv.small at h;rw[ua,uD,uD]at h;exact BO p _ W hT hp ho h.1 h.2
 |false=>exact Kj p _ W hs
end Go.Proofs.YtkmbmfengcdmoaaGreatDoor
namespace Go.Mg
open Go Go.RowKit Go.Mk
structure Oth (base b:Nat) (w w':World):Prop where
 os:w'.os=w.os
 tape:w'.tape=w.tape
 output:w'.output=w.output
 size:w.heap.size<=w'.heap.size
 block:∀g,g<base->g≠b->w'.heap[g]? =w.heap[g]?

section
variable {α γ:Type} {enc:α->Value} {ok:α->Prop} {ec:γ->List Value} {w:World} {base:Nat} {T:TypeId} {sz b:Nat} {L:List (α×(Value×List γ))}
variable [DecidableEq α]
end
section
variable {α γ:Type} [DecidableEq α]
end
section
variable {P:Program} {ops:Array Oper} {rest:List Oper} {a:Act} {Q:Exit->Act->World->Prop}
theorem aN(x:Operand){t:TypeId}{y:Operand}{d:Option Tmp}{ty:TypeId}{ps:String}{af:Array Edge}{g:Option (Nat×Bool)}{w:World}(h:wpList P ops Q (⟨d, .store t x y,ty,ps,af,g⟩::rest) a w):wpList P ops Q (⟨d, .store t x y,ty,ps,af,g⟩::rest) a w:=h
theorem aH(x:Operand){t:TypeId}{d:Option Tmp}{ty:TypeId}{ps:String}{af:Array Edge}{g:Option (Nat×Bool)}{w:World}(h:wpList P ops Q (⟨d, .load t x,ty,ps,af,g⟩::rest) a w):wpList P ops Q (⟨d, .load t x,ty,ps,af,g⟩::rest) a w:=h
theorem K9(x:Operand){t:TypeId}{m:Operand}{c:Bool}{d:Option Tmp}{ty:TypeId}{ps:String}{af:Array Edge}{g:Option (Nat×Bool)}{w:World}(h:wpList P ops Q (⟨d, .lookup t m x c,ty,ps,af,g⟩::rest) a w):wpList P ops Q (⟨d, .lookup t m x c,ty,ps,af,g⟩::rest) a w:=h
theorem Cl(x:Operand){c:Bool}{d:Option Tmp}{ty:TypeId}{ps:String}{af:Array Edge}{g:Option (Nat×Bool)}{w:World}(h:wpList P ops Q (⟨d, .next x c,ty,ps,af,g⟩::rest) a w):wpList P ops Q (⟨d, .next x c,ty,ps,af,g⟩::rest) a w:=h
theorem Hj(x:Operand){t:TypeId}{d:Option Tmp}{ty:TypeId}{ps:String}{af:Array Edge}{g:Option (Nat×Bool)}{w:World}(h:wpList P ops Q (⟨d, .range t x,ty,ps,af,g⟩::rest) a w):wpList P ops Q (⟨d, .range t x,ty,ps,af,g⟩::rest) a w:=h
variable {α γ:Type} {enc:α->Value} {ok:α->Prop} {ec:γ->List Value} {w:World} {base:Nat} {T t k s:TypeId} {sz b:Nat} {L:List (α×(Value×List γ))} [DecidableEq α]
end
end Go.Mg
namespace Go.Hk
open Go Go.RowKit
theorem aZ{P:Program}{ops:Array Oper}{rest:List Oper}{o:Oper}{a:Act}{w:World}{Q:Exit->Act->World->Prop}(hgd:o.guard=none)(ty:TypeId)(x y:Operand)(ho:o.op= .store ty x y)
  (g:Nat) (hx:a.eval x= .pointer (some ⟨g,0,none⟩)) (new:List Value) (hy:a.eval y= .agg new.toArray) (ju:List Value) (t:TypeId) (hr:w.heap[g]? =some (.cells ju.toArray t (0,0)))
  (hi:(P.info? ty).map (·.size)=some new.length) (hl:ju.length=new.length) (h1:∀v∈new,v.oneCell'=true)
  (hK:∀w',w'.heap[g]? =some (.cells new.toArray t (0,0))->w.grownBy w' (some g)->w'.heap.size=w.heap.size->wpList P ops Q rest (a.put o.dst undef) w'):wpList P ops Q (o::rest) a w:=by
 refine wpList_store_row hgd ty x y ho g new.toArray hx hy t ju.toArray hr (by rw[hi];simp) (by simp[hl]) (all_oneCell_toArray h1) ?_;refine hK _ (setRow_heap w g _ _ t _ hr) ⟨rfl,rfl,rfl,by simp[World.setRow],λk hk hn=> ?_⟩ (by simp[World.setRow])
 have:k≠g:=by simpa using hn
 simp only[World.setRow,vS];rw[if_neg (nq this)]
theorem aB{P:Program}{fn:Func}{p u:Tmp}{ty:TypeId}{v:Value}(h:fn.results= #[.cell p ty, .tmp u])(tmps:Array Value)(w:World)(g:Nat)(t:TypeId)(cs:Array Value)(fr:Nat×Nat)(d:TypeDesc)
  (hp:tmps.getD p undef= .pointer (some ⟨g,0,none⟩)) (hg:w.heap[g]? =some (.cells cs t fr))
  (hu:P.underlying ty=some d) (hd:(match d with| .struct _| .array _ _=>true|_=>false)=true) (hi:(P.info? ty).map (·.size)=some cs.size) (hv:tmps.getD u undef=v):
  (results fn tmps).run P w= .ok (.tuple #[.agg cs,v]) w:=by
 have hp':tmps[p]?.getD undef= .pointer (some ⟨g,0,none⟩):=by simpa using hp
 have hv':tmps[u]?.getD undef=v:=by simpa using hv
 simp[results,h,hp',hv',asAddr,run_loadVar_row w g t ty cs fr d hg hu hd hi]
theorem results_cell_row{P:Program}{fn:Func}{p:Tmp}{ty:TypeId}(h:fn.results= #[.cell p ty])(tmps:Array Value)(w:World)(g:Nat)(t:TypeId)(cs:Array Value)(fr:Nat×Nat)(d:TypeDesc)
  (hp:tmps.getD p undef= .pointer (some ⟨g,0,none⟩)) (hg:w.heap[g]? =some (.cells cs t fr))
  (hu:P.underlying ty=some d) (hd:(match d with| .struct _| .array _ _=>true|_=>false)=true) (hi:(P.info? ty).map (·.size)=some cs.size):
  (results fn tmps).run P w= .ok (.agg cs) w:=by
 have hp':tmps[p]?.getD undef= .pointer (some ⟨g,0,none⟩):=by simpa using hp
 simp[results,h,hp',asAddr,run_loadVar_row w g t ty cs fr d hg hu hd hi]
end Go.Hk
namespace Go.Opn
open Go Go.RowKit Go.ChangeShapes Go.WideShapes Go.Deep
section
variable {H:Type} {enc:TypeId×Value->H} {P:Program} {w:World} {base:Nat} {spare:Nat->Bool} {held:Bool}
theorem OY{t e:TypeId}{v:Value}{d:DataW H}{ps:List MemPlace}{r:Reach}{b0:Nat}(ht:P.underlying t=some (.slice e))(hv:Value.okWide P w r b0 t v)(h:DataW.Trod enc P w base spare held t v d ps):
  ∃f x,DataW.trod enc P w base spare held f t [v]=some x:=by
 obtain⟨fuel,hf⟩:=h;have hvc:∀x:Value,v.cells.toList= [x]->v=x:=by
  intro x hx;cases v<;>simp[Value.cells]at hx<;>first|exact hx|skip
  simp only[Value.okWide,ht]at hv;simp[Cell.okWide,Cell.ok,ht]at hv
 rcases open_slice ht hf with⟨h0,_⟩|⟨a,len,cap,m,n,D,Pl,hcs,_⟩
 ·rw[h0]at hf;rw[hvc _ h0];exact⟨_,_,hf⟩
 ·rw[hcs]at hf;rw[hvc _ hcs];exact⟨_,_,hf⟩
theorem vu{α:Type}[Inhabited α]{ec:α->List Value}{K:α->Prop}{t e:TypeId}{v:Value}{f:Nat}{x:DataW H×List MemPlace}(ht:P.underlying t=some (.slice e))(h0:0<P.cellsOf e)
  (hel:∀(f:Nat) (cs:List Value) (x:DataW H×List MemPlace),DataW.trod enc P w base spare held f e cs=some x->∃a:α,K a/\∀(p:Nat) u,(ec a)[p]? =some u->cs[p]? =some u)
  (h:DataW.trod enc P w base spare held f t [v]=some x):
  ∃(A:Option Addr) (c:Nat) (l:List α),v= .slice A l.length c/\l.length<=9223372036854775807/\l.length<=c/\SL w (P.cellsOf e) ec A l/\∀a∈l,K a:=by
 rcases open_slice ht h with⟨h1,_⟩|⟨a,len,cap,m,n,D,Pl,hcs,hb,hl,hm,hmm,hx,hi⟩
 ·cases h1
  exact⟨none,0,[],rfl,gu _,gu _,SL.nil,λa ha=>by cases ha⟩
 ·cases hcs
  have hi2:∀i,i<len->∃y:α,K y/\∃b off,a=⟨b,off,none⟩/\∀p u,(ec y)[p]? =some u->w.cell? ⟨b,off+(i*P.cellsOf e+p),none⟩=some u:=by
   intro i hil;have him:i<m:=by rw[hmm];split<;>omega
   obtain⟨cs',hc,ht'⟩:=hi i him;obtain⟨_,hcl,hat⟩:=World.cells?_some hc;have hs:a.spot=none:=by
    obtain⟨cs0,hc0,_⟩:=hi 0 (by omega);obtain⟨_,hcl0,hat0⟩:=World.cells?_some hc0;have h1:=hat0 0 h0;rw[Nat.zero_mul,eH (by omega)]at h1;have e0:(a.add 0).add 0=a:=rfl;rw[e0]at h1;unfold World.cell? at h1;split at h1
    ·split at h1
     ·cases h1
     ·rename_i hsp;simpa using hsp
    ·cases h1
   obtain⟨y,hy,hyc⟩:=hel _ _ _ ht';obtain⟨b,off,sp⟩:=a;simp only at hs;subst hs;refine⟨y,hy,b,off,rfl,λp u hu=> ?_⟩;have hu':=hyc p u hu;have hp:p<P.cellsOf e:=by rw[<-hcl];exact(jS.1 hu').1
   have h2:=hat p hp;rw[add_add,hu']at h2;rw[<-h2];congr 1;unfold Addr.add;split
   ·rename_i hz;rw[hz];rfl
   ·rfl
  obtain⟨g,hg⟩:=choose_lt hi2;unfold maxLen at hm;refine⟨some a,cap,(List.range len).map g,by simp,by simp;omega,by simpa using hl,⟨λhn=> ?_⟩,λy hy=> ?_⟩
  ·have h0:0<len:=by
    rcases Nat.eq_zero_or_pos len with h|h
    ·subst h;simp at hn
    ·exact h
   obtain⟨_,b,off,hA,_⟩:=hg 0 h0;refine⟨b,off,by rw[hA],λi y hie p u hu=> ?_⟩;have hil:i<len:=by have:=(jS.1 hie).1;simpa using this
   have he:g i=y:=by rw[mx,List.getElem?_range hil]at hie;simpa using hie
   obtain⟨_,b',off',hA',hcell⟩:=hg i hil;rw[hA]at hA';injection hA' with e1 e2;subst e1 e2;rw[<-he]at hu;exact hcell p u hu
  ·obtain⟨i,hi,rfl⟩:=nS.1 hy;exact(hg i (R2.1 hi)).1
theorem gl{α:Type}[Inhabited α]{ec:α->List Value}{K:α->Prop}{t t' e:TypeId}{f fuel p:Nat}{cs:List Value}{x:DataW H×List MemPlace}(ht:P.underlying t'=some (.slice e))(h0:0<P.cellsOf e)
  (hel:∀(f:Nat) (cs:List Value) (x:DataW H×List MemPlace),DataW.trod enc P w base spare held f e cs=some x->∃a:α,K a/\∀(p:Nat) u,(ec a)[p]? =some u->cs[p]? =some u)
  (h:lY P f t p=some t') (hx:DataW.trod enc P w base spare held fuel t cs=some x):
  ∃(A:Option Addr) (c:Nat) (l:List α),cs[p]? =some (.slice A l.length c)/\l.length<=9223372036854775807/\l.length<=c/\SL w (P.cellsOf e) ec A l/\∀a∈l,K a:=by
 obtain⟨v,m,y,hv,hy⟩:=leaf f h hx;obtain⟨A,c,l,rfl,h1,h2,h3,h4⟩:=vu ht h0 hel hy;exact⟨A,c,l,hv,h1,h2,h3,h4⟩
end
end Go.Opn
