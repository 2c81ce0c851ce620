/- Package house: Open. Conditions: the variables of digest and strconv hold their values; the disk holds a journal whose records are those of genuine entries. -/
import Derived.Test.YtkmbmfengcdmoaaGreatDoorZAK
import Derived.Test.YtkmbmfengcdmoaaGreatDoorZBH
import Derived.Test.YtkmbmfengcdmoaaGreatDoorZAT
import Derived.Test.YtkmbmfengcdmoaaGreatDoorZBG
import Derived.Test.YtkmbmfengcdmoaaGreatDoorZBJ
import Derived.Test.YtkmbmfengcdmoaaGreatDoorZAP
import Derived.Test.YtkmbmfengcdmoaaGreatDoorZAY
set_option maxRecDepth 100000
set_option linter.all false
namespace Go.Proofs.YtkmbmfengcdmoaaGreatDoor
open Go.RowKit Go.ay Go.Cs Go.Jn Go.Dk Go.Ho Go.Opn Go.Maps Go.WideMaps Go.Apl Go.Mg Go.Rf Go.Lib Go.Sg
def qV(x:Let)(ch:ByteArray):List Int:= [x.kind,x.number,x.na,x.day,(ch.size:Int)]
def Dj(L:List Int):List UInt8:=L.flatMap λn=>32::Lib.itoa n
def Ja(x:Let)(ch:ByteArray):List UInt8:= [108,101,116,116,101,114]++Dj (qV x ch)++32::(ch.data.toList++32::x.sum.data.toList)
theorem Dl(L:List Int)(h:∀n∈L, -9223372036854775808<=n/\n<=9223372036854775807):(Dj L).length<=22*L.length:=by
 induction L with
 |nil=>simp[Dj]
 |cons n L ih=>
  have b:=ih λm hm=>h m (by simp[hm])
  have a:=rG (h n (by simp)).1 (h n (by simp)).2;rw[pX]at a;unfold Dj at*;rw[BZ,fu,kq,kq];omega
theorem Jb{L:List Int}{k:Nat}{n:Int}(h:L[k]? =some n):Dj (L.take (k+1))=Dj (L.take k)++ [32]++Lib.itoa n:=by unfold Dj;rw[zX,h,DU];simp
set_option maxHeartbeats 2000000 in
theorem Jc(r:Rl)(W:World)(X:cB W)(hp:qE W r.1.patch r.2)(ho:GX r.1)(hc:(tx r.1.patch.text).size<=1000000000)(hs:r.1.sum.size<=1000000000):
  Calls Tryz.prog 78 #[.agg (fq r).toArray] W λe w'=>e= .returned (.string ⟨(Ja r.1 (tx r.1.patch.text)).toArray⟩)/\Below W.heap.size W w':=by
 obtain⟨R,eR⟩:=x_ (λe w'=>e= .returned (.string ⟨(Ja r.1 (tx r.1.patch.text)).toArray⟩)/\Below W.heap.size W w':Ending->World->Prop)
 rw[<-eR];obtain⟨V,eV⟩:=x_ (W.alloc (.cells (fq r).toArray 38))
 have z:Below W.heap.size W V:=by rw[eV];exact(Below.refl _ _).alloc (aL _) _
 have c:ay V W.heap.size (fq r) 38:=by rw[eV];exact ay.new W _ _
 have CP:=h_ (zN r.1.patch r.2 V (X.below z (aL _)) (hp.below z (aL _)) ho.patch);obtain⟨ps,y⟩:=x_ (jL r.1.patch r.2)
 have J:ps.length=19:=by rw[y];rfl
 have U:Hid (V.rangeAt W.heap.size 5 ps):=h_ (λj v hj=>by
  refine c.ag (5+j) v ?_;have co:j<ps.length:=(jS.1 hj).1;rw[y]at hj;unfold fq;rw[List.append_assoc,BW (by simp)];simp only[kq,qA];rw[show 5+j- (0+1+1+1+1+1)=j by omega,xL (by rw[sB];rw[J]at co;exact co)];exact hj)
 have Q:Hid ((Tryz.prog.info? 36).map (·.size)=some ps.length):=h_ (by rw[J];kernel_rfl);obtain⟨B,x⟩:=x_ (tx r.1.patch.text)
 rw[<-y, <-x]at CP;rw[<-x]at hc;have EV:Hid (W.alloc (.cells (fq r).toArray 38)=V):=h_ eV.symm;have ER:=h_ eR;have d8:=h_ x;have N:=h_ c;have O:=h_ z;have HT:=h_ X;obtain⟨⟨k0,k1⟩,_,⟨n0,n1⟩,⟨s0,s1⟩,⟨d0,d1⟩⟩:=ho.jc;have HN:Hid (∀n∈qV r.1 B, -9223372036854775808<=n/\n<=9223372036854775807):=h_ (by
  intro n t;simp only[qV,lC,DR,DW]at t;rcases t with rfl|rfl|rfl|rfl|rfl<;>omega)
 clear eR eV z c X hp ho y x J;go_enter Tryz.func78,Tryz.ntmps78;go_wp2_with (first
  |simp only[EV.out]
  |(refine aH (.tmp 7) ?_;refine wpList_load_mid rfl 36 (.tmp 7) rfl W.heap.size 5 rfl ps _ U.out Tryz.underlying36 rfl Q.out ?_))
 refine CP.out.mono ?_;rintro e l ⟨rfl,F⟩;have bn:=lH.new l l l.heap.size (Below.refl _ _) (aL _);obtain⟨b,eb⟩:=x_ l.heap.size
 have S0:=h_ (bn.rj ⟨#[108,101,116,116,101,114]⟩ (by decide));have i:=h_ (N.out.below F N.out.lt);have u:=h_ (O.out.trans (F.mono O.out.size));have EB:=h_ eb;clear F bn CP U Q;go_wp2_with fail;refine S0.out.mono ?_;rintro e E ⟨rfl,I,ii,C⟩;have d:ay E W.heap.size (fq r) 38:=i.out.below I.bl i.out.lt;have q0:=d.ag 0 (.int .i64 r.1.kind) rfl;have q2:=d.ag 2 (.int .i64 r.1.number) rfl;have q3:=d.ag 3 (.int .i64 r.1.na) rfl;have q4:=d.ag 4 (.int .i64 r.1.day) rfl;obtain⟨L,eL⟩:=x_ (qV r.1 B)
 obtain⟨w3,e3⟩:=x_ (E.alloc (.cells #[.int .i64 r.1.kind, .int .i64 r.1.number, .int .i64 r.1.na, .int .i64 r.1.day, .int .i64 (B.size:Int)] 3))
 have Y:Below E.heap.size E w3:=by rw[e3];exact(Below.refl _ _).alloc (aL _) _
 have D:ay w3 E.heap.size (L.map (Value.int .i64)) 3:=by rw[e3,eL];exact ay.new E [.int .i64 r.1.kind, .int .i64 r.1.number, .int .i64 r.1.na, .int .i64 r.1.day, .int .i64 (B.size:Int)] 3
 have gc:Hid (lH l l.heap.size l.heap.size ([108,101,116,116,101,114]++Dj (L.take 0)) w3):=h_ (by
  have h:=I.grow Y;simpa[Dj]using h)
 have S:=h_ D;have P:=h_ e3.symm;have o:Hid (L.length=5/\∀n∈L, -9223372036854775808<=n/\n<=9223372036854775807):=h_ (by rw[eL];exact⟨rfl,HN.out⟩);have EL:=h_ eL;have HQ:Hid (l.heap.size<E.heap.size):=h_ (by have:=C.size;simp at this;omega);clear I ii C d eL e3 Y D S0;go_wp2_with (simp only[P.out])
 clear q0 q2 q3 q4;obtain⟨q,eq⟩:=x_ E.heap.size
 rw[<-eq]at S HQ⊢;clear eq P
 go_loopw [23] (λv wr=> ∃k:Nat,v= .int .i64 (k:Int)/\k<=5/\lH l l.heap.size l.heap.size ([108,101,116,116,101,114]++Dj (L.take k)) wr/\ay wr q (L.map (Value.int .i64)) 3) (λv _=>(5:Int).toNat- (RowKit.intOf v).toNat)
 case atStart=>exact⟨0,rfl,gu _,gc.out,S.out⟩
 case round=>
  obtain⟨k,rfl,hk,Z,c⟩:=hrel;have f:(Dj (L.take k)).length<=22*5:=by
   have h:=Dl (L.take k) (λn t=>o.out.2 n (List.mem_of_mem_take t));have h2:(L.take k).length<=5:=by rw[jQ,o.out.1];omega
   omega
  rcases pC hk with A|A
  ·have io:(k:Int)<5:=by omega
   obtain⟨n,en⟩:∃n,L[k]? =some n:=⟨_,eH (by rw[o.out.1];exact A)⟩
   have g0:=c.ag k (.int .i64 n) (by rw[mx,en];rfl);have t:=o.out.2 n (ue en);have K:=h_ (Z.rj ⟨#[32]⟩ (by rw[fu];show _+1<=_;simp;omega));have f9:=h_ c;have EN:=h_ en;have a:=h_ f;have IT:=h_ (λw X=>fg n w t.1 t.2 X);have ge:=h_ (cR n t.1 t.2);clear Z c en t f;go_wp2_with fail;refine K.out.mono ?_;rintro e wa ⟨rfl,m,dl,g7⟩;have M:=h_ (ir dl f9.out (by decide) (by have:=HQ.out;omega));have T:=h_ (HT.out.below (u.out.trans (m.bl.mono u.out.size)) (aL _));have DA:=h_ m;clear m dl g7 K g0;go_wp2_with fail;refine(IT.out _ T.out).mono ?_;rintro e wb ⟨rfl,H⟩;have DB:=h_ (DA.out.grow H);have d9:=h_ (M.out.below H M.out.lt);clear H DA T;go_wp2_with fail;refine(DB.out.rj (dec n) (by have:=ge.out;have:=a.out;simp only[fu,kq,qA];simp;omega)).mono ?_;rintro e wc ⟨rfl,g,d6,g8⟩;have f8:=h_ (ir d6 d9.out (by decide) (by have:=HQ.out;omega));have DC:Hid (lH l l.heap.size l.heap.size ([108,101,116,116,101,114]++Dj (L.take (k+1))) wc):=h_ (by
    rw[Jb EN.out];rw[pX]at g;simpa[List.append_assoc]using g)
   clear g d6 g8 DB;go_wp2_with fail
   go_roundw
   case rel=>
    refine⟨_,_,_,_,_,_,_,_,_,_,⟨k+1, ?_,A,DC.out,f8.out⟩,rfl⟩;rfl
   case measure=>simp[RowKit.intOf];omega
  ·subst A;have io: ¬((5:Nat):Int)<5:=by omega
   have d7:L.take 5=L:=np (by rw[o.out.1];exact aL _);rw[d7]at Z f;have K:=h_ (Z.rj ⟨#[32]⟩ (by rw[fu];show _+1<=_;simp;omega));have a:=h_ f;have i8:B.data.toList.length=B.size:=by simp
   have i9:r.1.sum.data.toList.length=r.1.sum.size:=by simp
   have ip:({data:= #[32]}:ByteArray).size=1:=rfl;clear Z c f d7;go_wp2_with fail;refine K.out.mono ?_;rintro e wa ⟨rfl,m,_,_⟩;have C2:=h_ (m.rj B (by have:=a.out;simp only[fu,kq,qA];simp;omega));clear m K;go_wp2_with fail;refine C2.out.mono ?_;rintro e wb ⟨rfl,an,_,_⟩;have C3:=h_ (an.rj ⟨#[32]⟩ (by have:=a.out;simp only[fu,kq,qA];simp;omega));clear an C2;go_wp2_with fail;refine C3.out.mono ?_;rintro e wc ⟨rfl,g,_,_⟩;have gt:=(i.out.below g.bl i.out.lt).ag 24 (.string r.1.sum) rfl;have C4:=h_ (g.rj r.1.sum (by have:=a.out;simp only[fu,kq,qA];simp;omega));clear g C3;go_wp2_with fail;refine C4.out.mono ?_;rintro e wd ⟨rfl,bi,_,_⟩;have C5:=h_ bi.JM;clear bi C4 gt;go_wp2_with fail;refine C5.out.mono ?_;rintro e we ⟨rfl,ci,_,_⟩;have G:Hid (R (.returned (.string ⟨(108::101::116::116::101::114::(Dj L++32::(B.data.toList++32::r.1.sum.data.toList))).toArray⟩)) we):=h_ (by
    rw[ER.out, <-d8.out,EL.out];refine⟨?_,u.out.trans (ci.bl.mono u.out.size)⟩;unfold Ja;simp[List.append_assoc])
   clear ci C5;go_wp2_with fail;(try go_ret);exact G.out
attribute [local go_sem] Oper.semAt_some
noncomputable def HS.GG (n:Nat) (s:HS) (x:Let):HS×aV×Int:=
 if s.run=false then(s,aM,22)else if x.j8≠s.me then(s,aM,1)else if gR s=true then(s,aM,18)
 else if(tx x.patch.text).size=0 then(s,aM,3)else s.add n x.na ⟨(Ja x (tx x.patch.text)).toArray⟩
set_option maxHeartbeats 2000000 in
theorem MH{we w:World}{n:Nat}{p:Pl}{s:HS}(r:Rl)(h:HC we w n p s)(hi:lv s)(hP:qE w r.1.patch r.2)(hx:GX r.1)(hc:(tx r.1.patch.text).size<=100000000)(hs:r.1.sum.size<=100000000)(hT:cB w)(P:s.js.d.aF.length<=900000)(bi:s.js.bW.length<=1000000):
  Calls Tryz.prog 39 #[.pointer (some ⟨p.o.hb,0,none⟩), .agg (fq r).toArray] w (bS we w n p (s.GG n r.1).1 (gM (s.GG n r.1).2)):=by
 obtain⟨R,eR⟩:=x_ (bS we w n p (s.GG n r.1).1 (gM (s.GG n r.1).2))
 rw[<-eR];obtain⟨M,E⟩:=x_ (fq r)
 have m4:M.length=25:=by rw[E];rfl
 obtain⟨V,eV⟩:=x_ ((w.alloc (.cells M.toArray 38)).alloc (.cells #[.int .i64 0, .int .i64 0, .int .i64 0, .string ⟨#[]⟩, .string ⟨#[]⟩, .int .i64 0, .int .i64 0] 42))
 have B:Below w.heap.size w V:=by rw[eV];exact((Below.refl _ _).alloc (aL _) _).alloc (by simp) _
 have f8:ay V w.heap.size M 38:=by rw[eV];exact(ay.new w M 38).alloc _
 have C:ay V (w.heap.size+1) bO 42:=by rw[eV];exact ay.made (l:=bO) (by simp) rfl
 have hV:=h.grow B;have N:=hT.below B (aL _);obtain⟨j,ej,hj⟩:=hi.at;have EV:Hid ((w.alloc (.cells M.toArray 38)).alloc (.cells #[.int .i64 0, .int .i64 0, .int .i64 0, .string ⟨#[]⟩, .string ⟨#[]⟩, .int .i64 0, .int .i64 0] 42)=V):=h_ eV.symm;have HF:Hid (∀w',Below V.heap.size V w'->ay w' w.heap.size M 38):=h_ λw' h=>f8.below h f8.lt
 have J:Hid (∀w',Below V.heap.size V w'->ay w' (w.heap.size+1) bO 42):=h_ λw' h=>C.below h C.lt
 have HK:Hid (∀w',Below V.heap.size V w'->w'.cell? ⟨p.o.hb,7,none⟩=some (.bool s.run)/\w'.cell? ⟨p.o.hb,3,none⟩=some (.int .i64 s.me)):=h_ λw' h=>⟨(hV.grow h).hr.bg.ag 7 _ rfl,(hV.grow h).hr.bg.ag 3 _ rfl⟩
 have HM:Hid (∀w',Below V.heap.size V w'->w'.rangeAt w.heap.size 0 M):=h_ λw' h=>rg_of (HF.out w' h)
 have HI:=h_ (show(Tryz.prog.info? 38).map (·.size)=some M.length by rw[m4];kernel_rfl);have Z:=h_ (cE bO rfl);have T:Hid (∀u∈bO,u.oneCell'=true):=h_ (cm aM);have FE:Hid (∀w' c,s.GG n r.1=(s,aM,c)->Below w.heap.size w w'->R (.returned (gM (aM,c))) w'):=h_ λw' c he d7=>by
  rw[eR,he];exact bS.same h d7 _
 have Q:Hid (∀w' z,Below V.heap.size V w'->w'.grownBy z (some (w.heap.size+1))->Below w.heap.size w z):=h_ λw' z d7 hg=>by
  have O:=B.trans (d7.mono B.size);exact O.trans (below_grown hg (λg hg=>by injection hg with e;omega) O.size)
 have d6:=hP.below B (aL _);obtain⟨ps,W⟩:=x_ (jL r.1.patch r.2)
 have gt:ps.length=19:=by rw[W];rfl
 have pl:Hid (∀w',Below V.heap.size V w'->w'.rangeAt w.heap.size 5 ps):=h_ (λw' rt j v hj=>by
  refine(HF.out w' rt).ag (5+j) v ?_;have m5:j<ps.length:=(jS.1 hj).1;rw[W]at hj;rw[E];unfold fq;rw[List.append_assoc,BW (by simp)];simp only[kq,qA];rw[show 5+j- (0+1+1+1+1+1)=j by omega,xL (by rw[sB];rw[gt]at m5;exact m5)];exact hj)
 have no:Hid ((Tryz.prog.info? 36).map (·.size)=some ps.length):=h_ (by rw[gt];kernel_rfl);have C1:=h_ (λw' (hb:Below V.heap.size V w')=>zN r.1.patch r.2 w' (N.below hb (aL _)) (d6.below hb (aL _)) hx.patch);have C2:=h_ (λw' (hb:Below V.heap.size V w')=>sH p.o s w' (hV.grow hb).hr hi (N.below hb (aL _)));have CB:=h_ (λw' (hb:Below V.heap.size V w')=>Jc r w' (N.below hb (aL _)) (d6.below hb (aL _)) hx (by omega) (by omega));obtain⟨x,K⟩:=x_ (tx r.1.patch.text)
 obtain⟨bt,U⟩:=x_ (⟨(Ja r.1 x).toArray⟩:ByteArray)
 rw[<-K]at hc;have ld:s.GG n r.1=if s.run=false then(s,aM,22)else if r.1.j8≠s.me then(s,aM,1)else if gR s=true then(s,aM,18)else if x.size=0 then(s,aM,3)else s.add n r.1.na bt:=by rw[U,K];rfl
 rw[<-K, <-U, <-E]at CB;rw[<-K, <-W]at C1;obtain⟨⟨k0,k1⟩,_,⟨n0,n1⟩,⟨s0,s1⟩,⟨d0,d1⟩⟩:=hx.jc;have mt:bt.size<=400000000:=by
  have h1:=Dl (qV r.1 x) (by
   intro n hn;simp only[qV,lC,DR,DW]at hn;rcases hn with rfl|rfl|rfl|rfl|rfl<;>omega)
  have h2:(qV r.1 x).length=5:=rfl;have e1:x.data.toList.length=x.size:=by simp
  have e2:r.1.sum.data.toList.length=r.1.sum.size:=by simp
  rw[U];show(Ja r.1 x).toArray.size<=_;rw[tY];unfold Ja;simp only[fu,kq,qA];omega
 have CA:=h_ (λw' (hb:Below V.heap.size V w')=>Ch r.1.na bt (hV.grow hb) hi s0 s1 mt (N.below hb (aL _)) P bi);have A:=h_ ld;have ER:=h_ eR;have g7:=h_ E;have H0:=h_ h;have g8:=h_ B;have ol:Hid (w.heap.size+1<V.heap.size):=h_ C.lt;rw[<-E];obtain⟨q7,_⟩:=HK.out V (Below.refl _ _);have i9:=h_ (J.out V (Below.refl _ _));clear E eR m4 eV B f8 C hV N d6 ej hj ld mt h hi hT P bi W K U hP hx gt;cases hrun:s.run with
 |false=>
  rw[hrun]at q7;go_enter Tryz.func39,Tryz.ntmps39;go_wp2_with (first
   |simp only[EV.out]
   |(refine aN (.tmp 4) ?_;refine Hk.aZ rfl 42 (.tmp 4) (.tmp 14) rfl (w.heap.size+1) rfl bO rfl bO 42 i9.out Z.out rfl T.out ?_;intro z a b t;have m:=h_ a;have q:=h_ b;clear a b t;simp only[Act.put]))
  refine bodyPost_ret (v:=gM (aM,22)) (Hk.aB (fn:=Tryz.f39) (p:=4) (u:=5) (ty:=42) rfl _ _ (w.heap.size+1) 42 bO.toArray (0,0) _ rfl m.out Tryz.underlying42 rfl (by rw[Z.out];simp) rfl) rfl ?_;exact FE.out z 22 (by rw[A.out,if_pos hrun]) (Q.out V z (Below.refl _ _) q.out)
 |true=>
  rw[hrun]at q7;have ci:=h_ (A.out.trans (if_neg (by rw[hrun];decide)));clear A i9;go_enter Tryz.func39,Tryz.ntmps39;go_wp2_with (simp only[EV.out])
  have kw:Hid (∀w',Below V.heap.size V w'->w'.cell? ⟨w.heap.size,1,none⟩=some (.int .i64 r.1.j8)/\w'.cell? ⟨p.o.hb,3,none⟩=some (.int .i64 s.me)):=h_ λw' h=>⟨(HF.out w' h).ag 1 (.int .i64 r.1.j8) (by rw[g7.out];rfl),(HK.out w' h).2⟩
  refine Free.ai 7 [] (λw'=>Below V.heap.size V w') (by kernel_rfl) (by kernel_rfl) (Free.aW (λj mk r hf=>by cases hf)) (Below.refl _ _).drew (λ_ _ h g=>h.trans (Below.mono g h.size)) ?_;simp only[eJ,dT];iterate 7 (apply Free.ae rfl rfl;(intro w' i hA;cases kw.out w' i;clear hA i;go_light;go_simp<;>rfl);(try simp only[Pt]))
  apply Free.ax;intro w1 d8 _ _;simp only[fm,fo];have S:=h_ d8;have ii:=h_ (J.out w1 d8);clear d8 q7 kw;by_cases hv:r.1.j8=s.me;rotate_left
  ·have t1:(r.1.j8 !=s.me)=true:=by simpa using hv
   go_wp2_with (refine aN (.tmp 4) ?_;refine Hk.aZ rfl 42 (.tmp 4) (.tmp 22) rfl (w.heap.size+1) rfl bO rfl bO 42 ii.out Z.out rfl T.out ?_;intro z a b t;have m:=h_ a;have q:=h_ b;clear a b t;simp only[Act.put])
   refine bodyPost_ret (v:=gM (aM,1)) (Hk.aB (fn:=Tryz.f39) (p:=4) (u:=5) (ty:=42) rfl _ _ (w.heap.size+1) 42 bO.toArray (0,0) _ rfl m.out Tryz.underlying42 rfl (by rw[Z.out];simp) rfl) rfl ?_;exact FE.out z 1 (by rw[ci.out,if_pos hv]) (Q.out w1 z S.out q.out)
  ·have t1:(r.1.j8 !=s.me)=false:=by simpa using hv
   have co:=h_ (ci.out.trans (if_neg (by simpa using hv)));clear hv ci ii;go_wp2_with fail;refine(C2.out w1 S.out).mono ?_;rintro e w2 ⟨rfl,O⟩;have D:=h_ (S.out.trans (O.mono S.out.size));have io:=h_ (J.out w2 D.out);clear O C2;cases hf:gR s with
   |true=>
    go_wp2_with (refine aN (.tmp 4) ?_;refine Hk.aZ rfl 42 (.tmp 4) (.tmp 25) rfl (w.heap.size+1) rfl bO rfl bO 42 io.out Z.out rfl T.out ?_;intro z a b t;have m:=h_ a;have q:=h_ b;clear a b t;simp only[Act.put])
    refine bodyPost_ret (v:=gM (aM,18)) (Hk.aB (fn:=Tryz.f39) (p:=4) (u:=5) (ty:=42) rfl _ _ (w.heap.size+1) 42 bO.toArray (0,0) _ rfl m.out Tryz.underlying42 rfl (by rw[Z.out];simp) rfl) rfl ?_;exact FE.out z 18 (by rw[co.out,if_pos hf]) (Q.out w2 z D.out q.out)
   |false=>
    have dl:=h_ (co.out.trans (if_neg (by rw[hf];decide)));have pi:=h_ (pl.out w2 D.out);clear hf co io;go_wp2_with (refine aH (.tmp 26) ?_;refine wpList_load_mid rfl 36 (.tmp 26) rfl w.heap.size 5 rfl ps _ pi.out Tryz.underlying36 rfl no.out ?_)
    refine(C1.out w2 D.out).mono ?_;rintro e w3 ⟨rfl,lm⟩;have I:=h_ (D.out.trans (lm.mono D.out.size));have ip:=h_ (J.out w3 I.out);clear lm C1;by_cases H:x.size=0
    ·have pu:=h_ H;have f9:x=⟨#[]⟩:=by apply Sl;apply Array.eq_empty_of_size_eq_zero;exact H
     have q1:(x.toList==([]:List UInt8))=true:=by rw[f9,ByteArray.toList_eq];rfl
     have q2:x.toList.isEmpty=true:=by rw[f9,ByteArray.toList_eq];rfl
     clear f9 H;go_wp2_with (refine aN (.tmp 4) ?_;refine Hk.aZ rfl 42 (.tmp 4) (.tmp 30) rfl (w.heap.size+1) rfl bO rfl bO 42 ip.out Z.out rfl T.out ?_;intro z a b t;have m:=h_ a;have q:=h_ b;clear a b t;simp only[Act.put])
     refine bodyPost_ret (v:=gM (aM,3)) (Hk.aB (fn:=Tryz.f39) (p:=4) (u:=5) (ty:=42) rfl _ _ (w.heap.size+1) 42 bO.toArray (0,0) _ rfl m.out Tryz.underlying42 rfl (by rw[Z.out];simp) rfl) rfl ?_;exact FE.out z 3 (by rw[dl.out,if_pos pu.out]) (Q.out w3 z I.out q.out)
    ·have i8:=h_ (dl.out.trans (if_neg H));have Y:x.toList≠ []:=λe=>H (by
      rw[ByteArray.toList_eq]at e
      have:=congrArg List.length e;simpa using this)
     have q1:(x.toList==([]:List UInt8))=false:=by
      cases h:x.toList with
      |nil=>exact absurd h Y
      |cons _ _=>rfl
     have q2:x.toList.isEmpty=false:=by
      cases h:x.toList with
      |nil=>exact absurd h Y
      |cons _ _=>rfl
     have q3:(x.toList= [])=False:=eq_false Y;clear Y dl ip H;go_wp2_with fail;obtain⟨ra,er⟩:=x_ (s.add n r.1.na bt)
     have li:(s.GG n r.1)=ra:=by rw[i8.out,er]
     rw[<-er]at CA;obtain⟨s',e',c'⟩:=ra;dsimp only at CA;have py:=h_ li;obtain⟨X,L⟩:=x_ (aK e')
     have gc:gM (e',c')= .tuple #[.agg X.toArray, .int .i64 c']:=by rw[L];rfl
     rw[gc]at CA;have m9:=h_ gc;have i':=h_ (cE X (by rw[L];rfl));have pm:Hid (∀u∈X,u.oneCell'=true):=h_ (by rw[L];exact cm e');have n8:Hid (bO.length=X.length):=h_ (by rw[L];rfl);have m7:∀k,w.heap.size<=k-> ¬p.F k:=λk hk hF=>by have:=H0.out.lt hF;omega
     have jp:=h_ m7;clear li er L gc m7 i8;refine Fre7.dZ 8 [4,5] (λst y=>ay y w.heap.size M 38/\ay y (w.heap.size+1) bO 42/\(st<=1->Below V.heap.size V y)/\(st=2->∃w4,Below V.heap.size V w4/\bS we w4 n p s' (.tuple #[.agg X.toArray, .int .i64 c']) (.returned (.tuple #[.agg X.toArray, .int .i64 c'])) y)) (by kernel_rfl) (by kernel_rfl) (by kernel_rfl) ⟨HF.out _ (I.out.trans (Below.refl _ _).drew),J.out _ (I.out.trans (Below.refl _ _).drew),λ_=>I.out.trans (Below.refl _ _).drew,λh=>by cases h⟩ ?_;simp only[eJ,dT];iterate 4 (first|(apply Fre7.ae (Free.wq rfl) rfl;(intro st w' i;exact Hk.aU 38 (.tmp 3) rfl w.heap.size 0 rfl M _ (rg_of i.1) Tryz.underlying38 rfl HI.out);simp only[Pt])|(apply Fre7.ae (Free.wq rfl) rfl;(intro st w' i;have k4:=i.1.ag 3 (.int .i64 r.1.na) (by rw[g7.out];rfl);clear i;go_light;go_simp<;>rfl);(try simp only[Pt])))
     apply Fre7.gO (Free.wq rfl) (c:=0) rfl
     ·intro w' i;refine Fre7.au (f:=78) (args:= #[.agg M.toArray]) (by clear i;go_simp<;>rfl) ?_;have G:=i.2.2.1 (by decide);refine(CB.out w' G).mono ?_;rintro e w5 ⟨rfl,d9⟩;exact⟨_,rfl,⟨i.1.below d9 i.1.lt,i.2.1.below d9 i.2.1.lt,λ_=>G.trans (d9.mono G.size),λh=>by cases h⟩,rfl⟩
     simp only[Pt];apply Fre7.gO (Free.wq rfl) (c:=1) rfl
     ·intro w' i;refine Fre7.au (f:=48) (args:= #[.pointer (some ⟨p.o.hb,0,none⟩), .int .i64 r.1.na, .string bt]) (by clear i;go_simp<;>rfl) ?_;have G:=i.2.2.1 (by decide);refine(CA.out w' G).mono ?_;intro e w5 ge;obtain rfl:=ge.1;have m6:aJ p.F w' w5:=by obtain⟨_,p',_,_,_,_,h5,_⟩:=ge;exact h5
      exact⟨_,rfl,⟨i.1.bG (m6.block _ i.1.lt (jp.out _ (aL _))),i.2.1.bG (m6.block _ i.2.1.lt (jp.out _ (by omega))),λh=>by omega,λ_=>⟨w',G,ge⟩⟩,rfl⟩
     simp only[Pt];iterate 2 (apply Fre7.ae (Free.wq rfl) rfl;(intro st w' i;clear i;go_light;go_simp<;>rfl);(try simp only[Pt]))
     apply Fre7.ax;intro w6 qr;obtain⟨_,C,_,an⟩:=qr;have m8:=h_ C;have nl:=h_ (an rfl);clear C an;simp only[fm,fo];go_wp2_with (refine aN (.tmp 4) ?_;refine Hk.aZ rfl 42 (.tmp 4) (.tmp 37) rfl (w.heap.size+1) rfl X rfl bO 42 m8.out i'.out n8.out pm.out ?_;intro z a b t;have m:=h_ a;have q:=h_ b;clear a b t;simp only[Act.put])
     refine bodyPost_ret (v:= .tuple #[.agg X.toArray, .int .i64 c']) (Hk.aB (fn:=Tryz.f39) (p:=4) (u:=5) (ty:=42) rfl _ _ (w.heap.size+1) 42 X.toArray (0,0) _ rfl m.out Tryz.underlying42 rfl (by rw[i'.out];simp) rfl) rfl ?_;rw[ER.out,py.out];obtain⟨w4,lw,ro⟩:=nl.out;dsimp only;rw[m9.out];exact bS.tail H0.out (g8.out.trans (lw.mono g8.out.size)) ro (by omega) (nX ol.out lw.size) q.out
end Go.Proofs.YtkmbmfengcdmoaaGreatDoor
namespace Go.Proofs.YtkmbmfengcdmoaaGreatDoor
open Go.RowKit Go.W32 Go.ay Go.Cs Go.Jn Go.Dk Go.Ho Go.Opn Go.Maps Go.WideMaps Go.Apl Go.Mg Go.Rf Go.Lib Go.Cv
def iW(x:Int):Bool:=decide (1<=x)&&decide (x<=2147483646)
def oO(c:cZ)(own secret:Int)(bF:List Int):Bool:=
 decide (jo c.iU=0)&&(decide (0<=own)&&(decide (own<c.aj)&&(decide ((bF.length:Int)=c.aj)&&(bF.all iW&&(decide (lA secret=0)&&decide (cQ secret=bF.getD own.toNat 0))))))
def eP(es:List aV):dv:=es.map λe=>(aP e,e)
theorem Ay(c:NV):jo c=0\/jo c=1\/jo c=3:=by
 unfold jo;split
 ·split
  ·exact .inl rfl
  ·exact .inr (.inl rfl)
 ·exact .inr (.inr rfl)
theorem yv(es:List aV):(eP es).map (·.1)=es.map aP:=by unfold eP;rw[PS];rfl
theorem Aw{es:List aV}{k:Nat}{e:aV}(d:(es.map aP).Nodup)(c:es[k]? =some e):Mk.put (eP (es.take k)) (aP e) e=eP (es.take (k+1)):=by
 have j:=(jS.1 c).1;rw[Mk.mf]
 ·unfold eP;rw[zX,c,uE];rfl
 ·intro p g q;unfold eP at g;obtain⟨x,l,rfl⟩:=nS.1 g;obtain⟨i,a⟩:=NQ.1 l;have b:i<k:=by have:=(jS.1 a).1;rw[jQ]at this;omega
  rw[qC,if_pos b]at a;have o:aP x=aP e:=q
  have:=kQ o;subst this;have f:(es.map aP)[i]? =some (aP x):=by rw[mx,a];rfl
  have h:(es.map aP)[k]? =some (aP x):=by rw[mx,c];rfl
  have m:=(jS.1 f).1
  have:=(List.getElem?_inj m d).1 (f.trans h.symm);omega
theorem DZ{l:List Int}{k:Nat}{x:Int}(b:l[k]? =some x)(h:(l.take k).all iW=true)(a:iW x=true):(l.take (k+1)).all iW=true:=by rw[zX,b,RZ,h];simp[a]
theorem uH{l:List Int}{k:Nat}{x:Int}(b:l[k]? =some x)(a:iW x=false):l.all iW=false:=by
 cases h:l.all iW with
 |false=>rfl
 |true=>rw[GJ.1 h x (ue b)]at a;cases a
section
variable {we w w':World} {n:Nat} {p:Pl} {s:HS}
def GU(we w:World)(b bs bm n:Nat)(pv:Value)(c:cZ)(own secret:Int)(bF:List Int)(js:JS)(es:List aV)(e:Ending)(w':World):Prop:=
 Below w.heap.size w w'/\((oO c own secret bF=false/\e= .returned (.tuple #[.pointer none, .int .i64 1]))\/
  (oO c own secret bF=true/\∃p:Pl,p.b=b/\p.bs=bs/\p.bm=bm/\p.pv=pv/\(∀k,p.F k->Fp b bs bm pv k\/w.heap.size<=k)/\e= .returned (.tuple #[.pointer (some ⟨p.o.hb,0,none⟩), .int .i64 0])/\
   HC we w' n p ⟨c.aj,c.bQ.length,c.days,own,secret,bF,js,true,eP es⟩))
structure Made (V:World) (s0:HS) (jb:Nat) (x:Nat) (w:World):Prop where
 ex:∃o:Lo,o.hb=x/\o.jb=jb/\HR w o s0/\V.heap.size<=o.mb/\V.heap.size<=o.hb/\∀k,o.A.map (·.block)=some k->V.heap.size<=k/\k≠o.hb/\k≠o.mb/\k<w.heap.size
theorem Made.grow{V:World}{b:HS}{jb x:Nat}(h:Made V b jb x w)(a:Below w.heap.size w w'):Made V b jb x w':=by obtain⟨o,c,d,e,f,g,i⟩:=h.ex;exact⟨o,c,d,e.below a,f,g,λk j=>by obtain⟨l,m,q,r⟩:=i k j;exact⟨l,m,q,nX r a.size⟩⟩
end
structure G7 (we V w:World) (n:Nat) (p:Pl) (s:HS) (tv:Value) (r:List (List UInt8)):Prop where
 hc:HC we w n p s
 row:fY w 0 tv r
 off:∀k,tv.ownBlock=some k-> ¬p.F k
 bl:Below V.heap.size V w
theorem G7.grow{we V w w':World}{n:Nat}{p:Pl}{s:HS}{b:Value}{r:List (List UInt8)}(h:G7 we V w n p s b r)(a:Below w.heap.size w w'):G7 we V w' n p s b r:=
 ⟨h.hc.grow a,bC h.row (λk e=>a.block k (World.ownsRow.lt h.row k e).2),h.off,h.bl.trans (a.mono h.bl.size)⟩
theorem G7.DK{we V w w':World}{n:Nat}{p:Pl}{s:HS}{c:Value}{r:List (List UInt8)}{a:dv}(h:G7 we V w n p s c r)(d:V.heap.size<=p.o.mb)(hm:Mk.bL w' Value.string qw fv p.o.mb a)(b:aJ (λk=>k=p.o.mb) w w'):G7 we V w' n p {s with aw:=a} c r:=
 ⟨h.hc.DK hm b,bC h.row (λk e=>b.block k (World.ownsRow.lt h.row k e).2 (λq=>h.off k e (.inl (.inr (.inl q))))),h.off,h.bl.trans (b.below (λk q=>by subst q;exact d) h.bl.size)⟩
theorem Fe:∃i,Tryz.prog.info? 3=some i/\i.zero=some (.int .i64 0)/\i.size=1/\i.bytes=8:=by
 have h:(Tryz.prog.info? 3).map (λi=>(i.zero,i.size,i.bytes))=some (some (.int .i64 0),1,8):=by kernel_rfl
 cases hi:Tryz.prog.info? 3 with
 |none=>rw[hi]at h;cases h
 |some i=>rw[hi]at h;simp only[GK,NS,NO]at h;exact⟨i,rfl,h.1,h.2.1,h.2.2⟩
theorem Ak(A:Option Addr)(c:Nat)(l:List Int)(w:World)(j:SL w 1 Cs.encI A l)(k:l.length<=1000000):
  Calls Tryz.prog 66 #[.slice A l.length c] w λe w'=> ∃a b,e= .returned (.slice a l.length b)/\w'.ownsRow w.heap.size 3 1 (.slice a l.length b) l.length (l.flatMap Cs.encI)/\Below w.heap.size w w':=by
 obtain⟨i,d,f,g,h⟩:=Fe;exact Cln.Eh Tryz.T7 (ec:=Cs.encI) i _ 1 8 d f g h rfl (by decide) Tryz.sizeOf3 (λ_=>rfl) (λx v hv=>by simp[Cs.encI]at hv;subst hv;rfl) A c l w j (by unfold maxLen;omega) (by omega)
theorem Fg{we w:World}{b f bm n:Nat}{pv:Value}{d:DD}{v:Nat×Nat×Nat}{a:Nat}{r:List (List UInt8)}(y:cB we)(m:Below we.heap.size we w)(z:aI w b f bm pv d n)(B:∀k,Fp b f bm pv k->we.heap.size<=k)(o:dR n d=(0,some (v,a,r))):
  Calls Tryz.prog 65 #[.pointer (some ⟨b,0,none⟩)] w λe w'=> ∃jb rv A c,e= .returned (.tuple #[.pointer (some ⟨jb,0,none⟩), .slice A r.length c, .int .i64 0])/\
   PJ we w' jb b f bm n pv rv ⟨d,v,a,r,false⟩/\fY w' w.heap.size (.slice A r.length c) r/\(∀k,(Value.slice A r.length c).ownBlock=some k-> ¬pD jb b f bm pv rv k)/\Below w.heap.size w w'/\(∀k,pD jb b f bm pv rv k->Fp b f bm pv k\/w.heap.size<=k):=by
 refine(Jv z).mono ?_;rintro e w' ⟨j,⟨g,_⟩|⟨F,D,E,jb,rv,A,c,g,rfl,q,t,l,u,x⟩⟩
 ·rw[o]at g;cases g
 ·rw[o]at g;cases g
  have C:=m.size;have i:Below we.heap.size we w':=m.trans (j.mono C);refine⟨jb,rv,A,c,rfl,⟨q,⟨y,i,B⟩,by omega,λk h=>by have:=l k h;omega⟩,u,x,j, ?_⟩;rintro k (rfl|h|h)
  ·exact .inr t
  ·exact .inr (l k h)
  ·exact .inl h
theorem sD{c:cZ}(h:jo c.iU=0):c.aj<=12:=by
 unfold jo at h;split at h
 ·rename_i a;unfold sS at a;simp only[ua,uD]at a;exact a.1
 ·cases h
theorem uw{V w:World}{j:HS}{jb b a:Nat}(z:Below V.heap.size V w){c:cZ}{own secret:Int}{bF:List Int}{js:JS}(es:j=⟨c.aj,c.bQ.length,c.days,own,secret,bF,js,true,[]⟩)(f:Mk.bL w Value.string qw fv b ([]:dv)/\V.heap.size<=b)
  (i:w.ownsRow V.heap.size 3 1 (oK bF.length a) bF.length (bF.flatMap Cs.encI)):Made V j jb w.heap.size (w.alloc (.cells (wm ⟨w.heap.size,jb,b,aS a,cS a⟩ j).toArray 104)):=by
 have m:Below w.heap.size w (w.alloc (.cells (wm ⟨w.heap.size,jb,b,aS a,cS a⟩ j).toArray 104)):=(Below.refl _ _).alloc (aL _) _;obtain⟨A,D,q,_,t⟩:=gV (ec:=Cs.encI) (l:=bF) (λ_=>rfl) i;unfold oK at q;injection q with q _ ec;refine⟨⟨⟨w.heap.size,jb,b,aS a,cS a⟩,rfl,rfl,⟨ay.new w _ _, ?_, ?_⟩,f.2,z.size,λk B=> ?_⟩⟩
 ·have:j.aw= []:=by rw[es]
  rw[this];exact f.1.bD (m.block _ f.1.lt)
 ·have:j.bF=bF:=by rw[es]
  rw[this];show SL _ 1 Cs.encI (aS a) bF;have o:SL w 1 Cs.encI (aS a) bF:=by rw[q];exact t
  exact o.below m (aL _)
 ·have h:(aS a).map (·.block)=some k:=B;have d:(oK bF.length a).ownBlock=some k:=by
   unfold oK;cases hA:aS a with
   |none=>rw[hA]at h;cases h
   |some ad=>rw[hA]at h;simpa[Value.ownBlock]using h
  obtain⟨C,E⟩:=World.ownsRow.lt i k d;refine⟨C,by show k≠w.heap.size;omega, ?_,by show k<(w.alloc _).heap.size;simp;omega⟩;show k≠b;intro e;subst e;obtain⟨y,cl,hm,_⟩:=f.1;rcases i.2 with⟨r,_⟩|⟨g,v,x,r,_,u,_⟩
  ·rw[r]at d;cases d
  ·rw[r]at d;have e:g=k:=by simpa[Value.ownBlock]using d
   rw[e,hm]at u;cases u
theorem L0{we V i:World}{B n b f bm:Nat}{pv rv y:Value}{js:JS}{r:List (List UInt8)}{o:Lo}{p:Pl}{jb:Nat}{m:HS}(v:PJ we V jb b f bm n pv rv js)(d:fY V B y r)(h:∀k,y.ownBlock=some k-> ¬pD jb b f bm pv rv k)
  (u:Below V.heap.size V i) (z:p=⟨o,b,f,bm,pv,rv⟩) (es:m.js=js) (q:o.jb=jb) (F:HR i o m) (G:V.heap.size<=o.mb) (I:V.heap.size<=o.hb) (l:∀k,o.A.map (·.block)=some k->V.heap.size<=k/\k≠o.hb/\k≠o.mb/\k<i.heap.size):G7 we V i n p m y r:=by
 subst z;have x:=v.e.bl.size;have t:∀k,Pl.H ⟨o,b,f,bm,pv,rv⟩ k->V.heap.size<=k:=by
  rintro k (rfl|rfl|a)
  ·exact I
  ·exact G
  ·exact(l k a).1
 refine⟨⟨F, ?_,λk a=>fO x (t k a),λk a E=> ?_,λk a=>⟨(l k a).2.1,(l k a).2.2.1,(l k a).2.2.2⟩⟩,qn (bC d (λk e=>u.block k (World.ownsRow.lt d k e).2)) (gu _),λk a D=> ?_,u⟩
 ·show PJ we i o.jb b f bm n pv rv m.js;rw[es,q];exact v.grow u
 ·have C:=t k a;have c:pD o.jb b f bm pv rv k:=E;rw[q]at c
  have:=v.j.lt c;omega
 ·rcases D with g|g
  ·have C:=t k g
   have:=(World.ownsRow.lt d k a).2;omega
  ·have c:pD o.jb b f bm pv rv k:=g;rw[q]at c;exact h k a c
theorem LY{o:Lo}{p:Pl}{b c bm jb f S1 e:Nat}{pv rv:Value}(j:p=⟨o,b,c,bm,pv,rv⟩)(l:∀k,pD jb b c bm pv rv k->Fp b c bm pv k\/S1<=k)(m:e<=o.mb)(q:e<=o.hb)(r:∀k,o.A.map (·.block)=some k->e<=k)(a:f<=e)(g:f<=S1)(i:o.jb=jb):∀k,p.F k->Fp b c bm pv k\/f<=k:=by
 subst j;rintro k ((rfl|rfl|hk)|hk)
 ·exact .inr (fO a q)
 ·exact .inr (fO a m)
 ·exact .inr (fO a (r k hk))
 ·have d:pD o.jb b c bm pv rv k:=hk;rw[i]at d;exact(l k d).imp id (λh=>fO g h)
theorem JU{w:World}{A:Option Addr}{tc:Nat}{r:List (List UInt8)}{es:List aV}{k:Nat}{c:aV}(h:fY w 0 (.slice A r.length tc) r)(o:r=es.map λe=>(aP e).data.toList)(m:es[k]? =some c):∃g d,A=some ⟨g,d,none⟩/\w.cell? ⟨g,d+k,none⟩=some (.string (aP c)):=by
 have j:w.ownsRow 0 9 1 (.slice A r.length tc) (r.map tx).length ((r.map tx).flatMap lR):=by rw[rm];exact h
 obtain⟨u,v,e,_,q⟩:=gV (ec:=lR) (λ_=>rfl) j;injection e with f _ _;subst f;have t:(r.map tx)[k]? =some (aP c):=by rw[mx,o,mx,m];show some (tx (aP c).data.toList)=_;congr 1
 obtain⟨b,a,i,l⟩:=q.at_ t
 have:=l 0 (.string (aP c)) rfl;rw[show a+(k*1+0)=a+k by omega]at this;exact⟨b,a,i,this⟩
end Go.Proofs.YtkmbmfengcdmoaaGreatDoor
