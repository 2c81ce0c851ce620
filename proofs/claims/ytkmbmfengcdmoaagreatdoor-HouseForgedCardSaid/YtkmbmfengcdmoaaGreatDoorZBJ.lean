/- Package house: Open. Conditions: the variables of digest and strconv hold their values; the disk holds a journal whose records are those of genuine entries. -/
import Derived.Test.YtkmbmfengcdmoaaGreatDoorZAK
import Derived.Test.YtkmbmfengcdmoaaGreatDoorZBG
import Derived.Test.YtkmbmfengcdmoaaGreatDoorZAS
import Derived.Test.YtkmbmfengcdmoaaGreatDoorZBF
import Derived.Test.YtkmbmfengcdmoaaGreatDoorZBI
import Derived.Test.YtkmbmfengcdmoaaGreatDoorZAO
import Derived.Test.YtkmbmfengcdmoaaGreatDoorZAX
set_option maxRecDepth 100000
set_option linter.all false
namespace Go.Proofs.YtkmbmfengcdmoaaGreatDoor
open Go.RowKit Go.ay Go.Cs Go.Jn Go.Dk Go.Ho Go.Opn Go.Maps Go.WideMaps Go.Apl Go.Mg Go.Rf Go.Lib Go.Sg
def qV(x:Let)(ch:ByteArray):List Int:= [x.kind,x.number,x.na,x.day,(ch.size:Int)]
def Dj(L:List Int):List UInt8:=L.flatMap λn=>32::Lib.itoa n
def Ja(x:Let)(ch:ByteArray):List UInt8:= [108,101,116,116,101,114]++Dj (qV x ch)++32::(ch.data.toList++32::x.sum.data.toList)
theorem Dl(L:List Int)(h:∀n∈L, -9223372036854775808<=n/\n<=9223372036854775807):(Dj L).length<=22*L.length:=by
 induction L with
 |nil=>simp[Dj]
 |cons n L ih=>
  have h1:=ih λm hm=>h m (by simp[hm])
  have h2:=rG (h n (by simp)).1 (h n (by simp)).2;rw[pX]at h2;unfold Dj at*;rw[BZ,fu,kq,kq];omega
theorem Jb{L:List Int}{k:Nat}{n:Int}(h:L[k]? =some n):Dj (L.take (k+1))=Dj (L.take k)++ [32]++Lib.itoa n:=by unfold Dj;rw[zX,h,DU];simp
set_option maxHeartbeats 2000000 in
theorem Jc(r:Rl)(W:World)(hT:cB W)(hp:qE W r.1.patch r.2)(ho:GX r.1)(hc:(tx r.1.patch.text).size<=1000000000)(hs:r.1.sum.size<=1000000000):
  Calls Tryz.prog 78 #[.agg (fq r).toArray] W λe w'=>e= .returned (.string ⟨(Ja r.1 (tx r.1.patch.text)).toArray⟩)/\Below W.heap.size W w':=by
 obtain⟨R,eR⟩:=x_ (λe w'=>e= .returned (.string ⟨(Ja r.1 (tx r.1.patch.text)).toArray⟩)/\Below W.heap.size W w':Ending->World->Prop)
 rw[<-eR];obtain⟨V,eV⟩:=x_ (W.alloc (.cells (fq r).toArray 38))
 have hbV:Below W.heap.size W V:=by rw[eV];exact(Below.refl _ _).alloc (aL _) _
 have hbk:ay V W.heap.size (fq r) 38:=by rw[eV];exact ay.new W _ _
 have CP:=h_ (zN r.1.patch r.2 V (hT.below hbV (aL _)) (hp.below hbV (aL _)) ho.patch);obtain⟨ps,eps⟩:=x_ (jL r.1.patch r.2)
 have hpl:ps.length=19:=by rw[eps];rfl
 have hMP:Hid (V.rangeAt W.heap.size 5 ps):=h_ (λj v hj=>by
  refine hbk.ag (5+j) v ?_;have hjl:j<ps.length:=(jS.1 hj).1;rw[eps]at hj;unfold fq;rw[List.append_assoc,BW (by simp)];simp only[kq,qA];rw[show 5+j- (0+1+1+1+1+1)=j by omega,xL (by rw[sB];rw[hpl]at hjl;exact hjl)];exact hj)
 have HIP:Hid ((Tryz.prog.info? 36).map (·.size)=some ps.length):=h_ (by rw[hpl];kernel_rfl);obtain⟨ch,ech⟩:=x_ (tx r.1.patch.text)
 rw[<-eps, <-ech]at CP;rw[<-ech]at hc;have EV:Hid (W.alloc (.cells (fq r).toArray 38)=V):=h_ eV.symm;have ER:=h_ eR;have ECH:=h_ ech;have HBK:=h_ hbk;have HBV:=h_ hbV;have HT:=h_ hT;obtain⟨⟨k0,k1⟩,_,⟨n0,n1⟩,⟨s0,s1⟩,⟨d0,d1⟩⟩:=ho.jc;have HN:Hid (∀n∈qV r.1 ch, -9223372036854775808<=n/\n<=9223372036854775807):=h_ (by
  intro n hn;simp only[qV,lC,DR,DW]at hn;rcases hn with rfl|rfl|rfl|rfl|rfl<;>omega)
 clear eR eV hbV hbk hT hp ho eps ech hpl;go_enter Tryz.func78,Tryz.ntmps78;go_wp2_with (first
  |simp only[EV.out]
  |(refine aH (.tmp 7) ?_;refine wpList_load_mid rfl 36 (.tmp 7) rfl W.heap.size 5 rfl ps _ hMP.out Tryz.underlying36 rfl HIP.out ?_))
 refine CP.out.mono ?_;rintro e w1 ⟨rfl,hb1⟩;have bn:=lH.new w1 w1 w1.heap.size (Below.refl _ _) (aL _);obtain⟨b,eb⟩:=x_ w1.heap.size
 have S0:=h_ (bn.rj ⟨#[108,101,116,116,101,114]⟩ (by decide));have HBK1:=h_ (HBK.out.below hb1 HBK.out.lt);have HB1:=h_ (HBV.out.trans (hb1.mono HBV.out.size));have EB:=h_ eb;clear hb1 bn CP hMP HIP;go_wp2_with fail;refine S0.out.mono ?_;rintro e w2 ⟨rfl,hd2,hk2,hbb2⟩;have hbk2:ay w2 W.heap.size (fq r) 38:=HBK1.out.below hd2.bl HBK1.out.lt;have q0:=hbk2.ag 0 (.int .i64 r.1.kind) rfl;have q2:=hbk2.ag 2 (.int .i64 r.1.number) rfl;have q3:=hbk2.ag 3 (.int .i64 r.1.na) rfl;have q4:=hbk2.ag 4 (.int .i64 r.1.day) rfl;obtain⟨L,eL⟩:=x_ (qV r.1 ch)
 obtain⟨w3,e3⟩:=x_ (w2.alloc (.cells #[.int .i64 r.1.kind, .int .i64 r.1.number, .int .i64 r.1.na, .int .i64 r.1.day, .int .i64 (ch.size:Int)] 3))
 have hb3:Below w2.heap.size w2 w3:=by rw[e3];exact(Below.refl _ _).alloc (aL _) _
 have hbk3:ay w3 w2.heap.size (L.map (Value.int .i64)) 3:=by rw[e3,eL];exact ay.new w2 [.int .i64 r.1.kind, .int .i64 r.1.number, .int .i64 r.1.na, .int .i64 r.1.day, .int .i64 (ch.size:Int)] 3
 have HD3:Hid (lH w1 w1.heap.size w1.heap.size ([108,101,116,116,101,114]++Dj (L.take 0)) w3):=h_ (by
  have h:=hd2.grow hb3;simpa[Dj]using h)
 have HK3:=h_ hbk3;have HE3:=h_ e3.symm;have HLN:Hid (L.length=5/\∀n∈L, -9223372036854775808<=n/\n<=9223372036854775807):=h_ (by rw[eL];exact⟨rfl,HN.out⟩);have EL:=h_ eL;have HQ:Hid (w1.heap.size<w2.heap.size):=h_ (by have:=hbb2.size;simp at this;omega);clear hd2 hk2 hbb2 hbk2 eL e3 hb3 hbk3 S0;go_wp2_with (simp only[HE3.out])
 clear q0 q2 q3 q4;obtain⟨q,eq⟩:=x_ w2.heap.size
 rw[<-eq]at HK3 HQ⊢;clear eq HE3
 go_loopw [23] (λv wr=> ∃k:Nat,v= .int .i64 (k:Int)/\k<=5/\lH w1 w1.heap.size w1.heap.size ([108,101,116,116,101,114]++Dj (L.take k)) wr/\ay wr q (L.map (Value.int .i64)) 3) (λv _=>(5:Int).toNat- (RowKit.intOf v).toNat)
 case atStart=>exact⟨0,rfl,gu _,HD3.out,HK3.out⟩
 case round=>
  obtain⟨k,rfl,hk,hd,hbk⟩:=hrel;have hlen:(Dj (L.take k)).length<=22*5:=by
   have h:=Dl (L.take k) (λn hn=>HLN.out.2 n (List.mem_of_mem_take hn));have h2:(L.take k).length<=5:=by rw[jQ,HLN.out.1];omega
   omega
  rcases pC hk with hkl|hkl
  ·have hki:(k:Int)<5:=by omega
   obtain⟨n,en⟩:∃n,L[k]? =some n:=⟨_,eH (by rw[HLN.out.1];exact hkl)⟩
   have g0:=hbk.ag k (.int .i64 n) (by rw[mx,en];rfl);have hn:=HLN.out.2 n (ue en);have C1:=h_ (hd.rj ⟨#[32]⟩ (by rw[fu];show _+1<=_;simp;omega));have HBQ:=h_ hbk;have EN:=h_ en;have HLEN:=h_ hlen;have IT:=h_ (λw hT=>fg n w hn.1 hn.2 hT);have HDN:=h_ (cR n hn.1 hn.2);clear hd hbk en hn hlen;go_wp2_with fail;refine C1.out.mono ?_;rintro e wa ⟨rfl,hda,hka,hba⟩;have HBA:=h_ (ir hka HBQ.out (by decide) (by have:=HQ.out;omega));have HTA:=h_ (HT.out.below (HB1.out.trans (hda.bl.mono HB1.out.size)) (aL _));have DA:=h_ hda;clear hda hka hba C1 g0;go_wp2_with fail;refine(IT.out _ HTA.out).mono ?_;rintro e wb ⟨rfl,hbb⟩;have DB:=h_ (DA.out.grow hbb);have HBB:=h_ (HBA.out.below hbb HBA.out.lt);clear hbb DA HTA;go_wp2_with fail;refine(DB.out.rj (dec n) (by have:=HDN.out;have:=HLEN.out;simp only[fu,kq,qA];simp;omega)).mono ?_;rintro e wc ⟨rfl,hdc,hkc,hbc⟩;have HBC:=h_ (ir hkc HBB.out (by decide) (by have:=HQ.out;omega));have DC:Hid (lH w1 w1.heap.size w1.heap.size ([108,101,116,116,101,114]++Dj (L.take (k+1))) wc):=h_ (by
    rw[Jb EN.out];rw[pX]at hdc;simpa[List.append_assoc]using hdc)
   clear hdc hkc hbc DB;go_wp2_with fail
   go_roundw
   case rel=>
    refine⟨_,_,_,_,_,_,_,_,_,_,⟨k+1, ?_,hkl,DC.out,HBC.out⟩,rfl⟩;rfl
   case measure=>simp[RowKit.intOf];omega
  ·subst hkl;have hki: ¬((5:Nat):Int)<5:=by omega
   have htk:L.take 5=L:=np (by rw[HLN.out.1];exact aL _);rw[htk]at hd hlen;have C1:=h_ (hd.rj ⟨#[32]⟩ (by rw[fu];show _+1<=_;simp;omega));have HLEN:=h_ hlen;have hcs:ch.data.toList.length=ch.size:=by simp
   have hss:r.1.sum.data.toList.length=r.1.sum.size:=by simp
   have e32:({data:= #[32]}:ByteArray).size=1:=rfl;clear hd hbk hlen htk;go_wp2_with fail;refine C1.out.mono ?_;rintro e wa ⟨rfl,hda,_,_⟩;have C2:=h_ (hda.rj ch (by have:=HLEN.out;simp only[fu,kq,qA];simp;omega));clear hda C1;go_wp2_with fail;refine C2.out.mono ?_;rintro e wb ⟨rfl,hdb,_,_⟩;have C3:=h_ (hdb.rj ⟨#[32]⟩ (by have:=HLEN.out;simp only[fu,kq,qA];simp;omega));clear hdb C2;go_wp2_with fail;refine C3.out.mono ?_;rintro e wc ⟨rfl,hdc,_,_⟩;have c24:=(HBK1.out.below hdc.bl HBK1.out.lt).ag 24 (.string r.1.sum) rfl;have C4:=h_ (hdc.rj r.1.sum (by have:=HLEN.out;simp only[fu,kq,qA];simp;omega));clear hdc C3;go_wp2_with fail;refine C4.out.mono ?_;rintro e wd ⟨rfl,hdd,_,_⟩;have C5:=h_ hdd.JM;clear hdd C4 c24;go_wp2_with fail;refine C5.out.mono ?_;rintro e we ⟨rfl,hde,_,_⟩;have G:Hid (R (.returned (.string ⟨(108::101::116::116::101::114::(Dj L++32::(ch.data.toList++32::r.1.sum.data.toList))).toArray⟩)) we):=h_ (by
    rw[ER.out, <-ECH.out,EL.out];refine⟨?_,HB1.out.trans (hde.bl.mono HB1.out.size)⟩;unfold Ja;simp[List.append_assoc])
   clear hde C5;go_wp2_with fail;(try go_ret);exact G.out
attribute [local go_sem] Oper.semAt_some
noncomputable def HS.GG (n:Nat) (s:HS) (x:Let):HS×aV×Int:=
 if s.run=false then(s,aM,22)else if x.j8≠s.me then(s,aM,1)else if gR s=true then(s,aM,18)
 else if(tx x.patch.text).size=0 then(s,aM,3)else s.add n x.na ⟨(Ja x (tx x.patch.text)).toArray⟩
set_option maxHeartbeats 2000000 in
theorem MH{we w:World}{n:Nat}{p:Pl}{s:HS}(r:Rl)(h:HC we w n p s)(hi:lv s)(hP:qE w r.1.patch r.2)(hx:GX r.1)(hc:(tx r.1.patch.text).size<=100000000)(hs:r.1.sum.size<=100000000)(hT:cB w)(hpend:s.js.d.aF.length<=900000)(hrec:s.js.bW.length<=1000000):
  Calls Tryz.prog 39 #[.pointer (some ⟨p.o.hb,0,none⟩), .agg (fq r).toArray] w (bS we w n p (s.GG n r.1).1 (gM (s.GG n r.1).2)):=by
 obtain⟨R,eR⟩:=x_ (bS we w n p (s.GG n r.1).1 (gM (s.GG n r.1).2))
 rw[<-eR];obtain⟨fs,efs⟩:=x_ (fq r)
 have hfl:fs.length=25:=by rw[efs];rfl
 obtain⟨V,eV⟩:=x_ ((w.alloc (.cells fs.toArray 38)).alloc (.cells #[.int .i64 0, .int .i64 0, .int .i64 0, .string ⟨#[]⟩, .string ⟨#[]⟩, .int .i64 0, .int .i64 0] 42))
 have hbV:Below w.heap.size w V:=by rw[eV];exact((Below.refl _ _).alloc (aL _) _).alloc (by simp) _
 have hbf:ay V w.heap.size fs 38:=by rw[eV];exact(ay.new w fs 38).alloc _
 have hbe:ay V (w.heap.size+1) bO 42:=by rw[eV];exact ay.made (l:=bO) (by simp) rfl
 have hV:=h.grow hbV;have hTV:=hT.below hbV (aL _);obtain⟨j,ej,hj⟩:=hi.at;have EV:Hid ((w.alloc (.cells fs.toArray 38)).alloc (.cells #[.int .i64 0, .int .i64 0, .int .i64 0, .string ⟨#[]⟩, .string ⟨#[]⟩, .int .i64 0, .int .i64 0] 42)=V):=h_ eV.symm;have HF:Hid (∀w',Below V.heap.size V w'->ay w' w.heap.size fs 38):=h_ λw' h=>hbf.below h hbf.lt
 have HEn:Hid (∀w',Below V.heap.size V w'->ay w' (w.heap.size+1) bO 42):=h_ λw' h=>hbe.below h hbe.lt
 have HK:Hid (∀w',Below V.heap.size V w'->w'.cell? ⟨p.o.hb,7,none⟩=some (.bool s.run)/\w'.cell? ⟨p.o.hb,3,none⟩=some (.int .i64 s.me)):=h_ λw' h=>⟨(hV.grow h).hr.bg.ag 7 _ rfl,(hV.grow h).hr.bg.ag 3 _ rfl⟩
 have HM:Hid (∀w',Below V.heap.size V w'->w'.rangeAt w.heap.size 0 fs):=h_ λw' h=>rg_of (HF.out w' h)
 have HI:=h_ (show(Tryz.prog.info? 38).map (·.size)=some fs.length by rw[hfl];kernel_rfl);have HZ:=h_ (cE bO rfl);have HZ1:Hid (∀u∈bO,u.oneCell'=true):=h_ (cm aM);have FE:Hid (∀w' c,s.GG n r.1=(s,aM,c)->Below w.heap.size w w'->R (.returned (gM (aM,c))) w'):=h_ λw' c he hb'=>by
  rw[eR,he];exact bS.same h hb' _
 have HB0:Hid (∀w' w9,Below V.heap.size V w'->w'.grownBy w9 (some (w.heap.size+1))->Below w.heap.size w w9):=h_ λw' w9 hb' hg=>by
  have hb2:=hbV.trans (hb'.mono hbV.size);exact hb2.trans (below_grown hg (λg hg=>by injection hg with e;omega) hb2.size)
 have hPV:=hP.below hbV (aL _);obtain⟨ps,eps⟩:=x_ (jL r.1.patch r.2)
 have hpl:ps.length=19:=by rw[eps];rfl
 have HMP:Hid (∀w',Below V.heap.size V w'->w'.rangeAt w.heap.size 5 ps):=h_ (λw' hw' j v hj=>by
  refine(HF.out w' hw').ag (5+j) v ?_;have hjl:j<ps.length:=(jS.1 hj).1;rw[eps]at hj;rw[efs];unfold fq;rw[List.append_assoc,BW (by simp)];simp only[kq,qA];rw[show 5+j- (0+1+1+1+1+1)=j by omega,xL (by rw[sB];rw[hpl]at hjl;exact hjl)];exact hj)
 have HIP:Hid ((Tryz.prog.info? 36).map (·.size)=some ps.length):=h_ (by rw[hpl];kernel_rfl);have C1:=h_ (λw' (hb:Below V.heap.size V w')=>zN r.1.patch r.2 w' (hTV.below hb (aL _)) (hPV.below hb (aL _)) hx.patch);have C2:=h_ (λw' (hb:Below V.heap.size V w')=>sH p.o s w' (hV.grow hb).hr hi (hTV.below hb (aL _)));have CB:=h_ (λw' (hb:Below V.heap.size V w')=>Jc r w' (hTV.below hb (aL _)) (hPV.below hb (aL _)) hx (by omega) (by omega));obtain⟨ch,ech⟩:=x_ (tx r.1.patch.text)
 obtain⟨bt,ebt⟩:=x_ (⟨(Ja r.1 ch).toArray⟩:ByteArray)
 rw[<-ech]at hc;have hE0:s.GG n r.1=if s.run=false then(s,aM,22)else if r.1.j8≠s.me then(s,aM,1)else if gR s=true then(s,aM,18)else if ch.size=0 then(s,aM,3)else s.add n r.1.na bt:=by rw[ebt,ech];rfl
 rw[<-ech, <-ebt, <-efs]at CB;rw[<-ech, <-eps]at C1;obtain⟨⟨k0,k1⟩,_,⟨n0,n1⟩,⟨s0,s1⟩,⟨d0,d1⟩⟩:=hx.jc;have hbd:bt.size<=400000000:=by
  have h1:=Dl (qV r.1 ch) (by
   intro n hn;simp only[qV,lC,DR,DW]at hn;rcases hn with rfl|rfl|rfl|rfl|rfl<;>omega)
  have h2:(qV r.1 ch).length=5:=rfl;have e1:ch.data.toList.length=ch.size:=by simp
  have e2:r.1.sum.data.toList.length=r.1.sum.size:=by simp
  rw[ebt];show(Ja r.1 ch).toArray.size<=_;rw[tY];unfold Ja;simp only[fu,kq,qA];omega
 have CA:=h_ (λw' (hb:Below V.heap.size V w')=>Ch r.1.na bt (hV.grow hb) hi s0 s1 hbd (hTV.below hb (aL _)) hpend hrec);have HFILE:=h_ hE0;have ER:=h_ eR;have EFS:=h_ efs;have H0:=h_ h;have HBV:=h_ hbV;have HLT:Hid (w.heap.size+1<V.heap.size):=h_ hbe.lt;rw[<-efs];obtain⟨q7,_⟩:=HK.out V (Below.refl _ _);have HEV:=h_ (HEn.out V (Below.refl _ _));clear efs eR hfl eV hbV hbf hbe hV hTV hPV ej hj hE0 hbd h hi hT hpend hrec eps ech ebt hP hx hpl;cases hrun:s.run with
 |false=>
  rw[hrun]at q7;go_enter Tryz.func39,Tryz.ntmps39;go_wp2_with (first
   |simp only[EV.out]
   |(refine aN (.tmp 4) ?_;refine Hk.aZ rfl 42 (.tmp 4) (.tmp 14) rfl (w.heap.size+1) rfl bO rfl bO 42 HEV.out HZ.out rfl HZ1.out ?_;intro w9 h91 h92 h93;have H91:=h_ h91;have H92:=h_ h92;clear h91 h92 h93;simp only[Act.put]))
  refine bodyPost_ret (v:=gM (aM,22)) (Hk.aB (fn:=Tryz.f39) (p:=4) (u:=5) (ty:=42) rfl _ _ (w.heap.size+1) 42 bO.toArray (0,0) _ rfl H91.out Tryz.underlying42 rfl (by rw[HZ.out];simp) rfl) rfl ?_;exact FE.out w9 22 (by rw[HFILE.out,if_pos hrun]) (HB0.out V w9 (Below.refl _ _) H92.out)
 |true=>
  rw[hrun]at q7;have HE2:=h_ (HFILE.out.trans (if_neg (by rw[hrun];decide)));clear HFILE HEV;go_enter Tryz.func39,Tryz.ntmps39;go_wp2_with (simp only[EV.out])
  have HQ5:Hid (∀w',Below V.heap.size V w'->w'.cell? ⟨w.heap.size,1,none⟩=some (.int .i64 r.1.j8)/\w'.cell? ⟨p.o.hb,3,none⟩=some (.int .i64 s.me)):=h_ λw' h=>⟨(HF.out w' h).ag 1 (.int .i64 r.1.j8) (by rw[EFS.out];rfl),(HK.out w' h).2⟩
  refine Free.ai 7 [] (λw'=>Below V.heap.size V w') (by kernel_rfl) (by kernel_rfl) (Free.aW (λj mk r hf=>by cases hf)) (Below.refl _ _).drew (λ_ _ h g=>h.trans (Below.mono g h.size)) ?_;simp only[eJ,dT];iterate 7 (apply Free.ae rfl rfl;(intro w' hB hA;cases HQ5.out w' hB;clear hA hB;go_light;go_simp<;>rfl);(try simp only[Pt]))
  apply Free.ax;intro w1 hb1 _ _;simp only[fm,fo];have HB1:=h_ hb1;have HC1:=h_ (HEn.out w1 hb1);clear hb1 q7 HQ5;by_cases hv:r.1.j8=s.me;rotate_left
  ·have t1:(r.1.j8 !=s.me)=true:=by simpa using hv
   go_wp2_with (refine aN (.tmp 4) ?_;refine Hk.aZ rfl 42 (.tmp 4) (.tmp 22) rfl (w.heap.size+1) rfl bO rfl bO 42 HC1.out HZ.out rfl HZ1.out ?_;intro w9 h91 h92 h93;have H91:=h_ h91;have H92:=h_ h92;clear h91 h92 h93;simp only[Act.put])
   refine bodyPost_ret (v:=gM (aM,1)) (Hk.aB (fn:=Tryz.f39) (p:=4) (u:=5) (ty:=42) rfl _ _ (w.heap.size+1) 42 bO.toArray (0,0) _ rfl H91.out Tryz.underlying42 rfl (by rw[HZ.out];simp) rfl) rfl ?_;exact FE.out w9 1 (by rw[HE2.out,if_pos hv]) (HB0.out w1 w9 HB1.out H92.out)
  ·have t1:(r.1.j8 !=s.me)=false:=by simpa using hv
   have HE3:=h_ (HE2.out.trans (if_neg (by simpa using hv)));clear hv HE2 HC1;go_wp2_with fail;refine(C2.out w1 HB1.out).mono ?_;rintro e w2 ⟨rfl,hb2⟩;have HB2:=h_ (HB1.out.trans (hb2.mono HB1.out.size));have HC2:=h_ (HEn.out w2 HB2.out);clear hb2 C2;cases hf:gR s with
   |true=>
    go_wp2_with (refine aN (.tmp 4) ?_;refine Hk.aZ rfl 42 (.tmp 4) (.tmp 25) rfl (w.heap.size+1) rfl bO rfl bO 42 HC2.out HZ.out rfl HZ1.out ?_;intro w9 h91 h92 h93;have H91:=h_ h91;have H92:=h_ h92;clear h91 h92 h93;simp only[Act.put])
    refine bodyPost_ret (v:=gM (aM,18)) (Hk.aB (fn:=Tryz.f39) (p:=4) (u:=5) (ty:=42) rfl _ _ (w.heap.size+1) 42 bO.toArray (0,0) _ rfl H91.out Tryz.underlying42 rfl (by rw[HZ.out];simp) rfl) rfl ?_;exact FE.out w9 18 (by rw[HE3.out,if_pos hf]) (HB0.out w2 w9 HB2.out H92.out)
   |false=>
    have HE4:=h_ (HE3.out.trans (if_neg (by rw[hf];decide)));have HM5:=h_ (HMP.out w2 HB2.out);clear hf HE3 HC2;go_wp2_with (refine aH (.tmp 26) ?_;refine wpList_load_mid rfl 36 (.tmp 26) rfl w.heap.size 5 rfl ps _ HM5.out Tryz.underlying36 rfl HIP.out ?_)
    refine(C1.out w2 HB2.out).mono ?_;rintro e w3 ⟨rfl,hb3⟩;have HB4:=h_ (HB2.out.trans (hb3.mono HB2.out.size));have HC3:=h_ (HEn.out w3 HB4.out);clear hb3 C1;by_cases hc0:ch.size=0
    ·have HS0:=h_ hc0;have hce:ch=⟨#[]⟩:=by apply Sl;apply Array.eq_empty_of_size_eq_zero;exact hc0
     have q1:(ch.toList==([]:List UInt8))=true:=by rw[hce,ByteArray.toList_eq];rfl
     have q2:ch.toList.isEmpty=true:=by rw[hce,ByteArray.toList_eq];rfl
     clear hce hc0;go_wp2_with (refine aN (.tmp 4) ?_;refine Hk.aZ rfl 42 (.tmp 4) (.tmp 30) rfl (w.heap.size+1) rfl bO rfl bO 42 HC3.out HZ.out rfl HZ1.out ?_;intro w9 h91 h92 h93;have H91:=h_ h91;have H92:=h_ h92;clear h91 h92 h93;simp only[Act.put])
     refine bodyPost_ret (v:=gM (aM,3)) (Hk.aB (fn:=Tryz.f39) (p:=4) (u:=5) (ty:=42) rfl _ _ (w.heap.size+1) 42 bO.toArray (0,0) _ rfl H91.out Tryz.underlying42 rfl (by rw[HZ.out];simp) rfl) rfl ?_;exact FE.out w9 3 (by rw[HE4.out,if_pos HS0.out]) (HB0.out w3 w9 HB4.out H92.out)
    ·have HE5:=h_ (HE4.out.trans (if_neg hc0));have hne:ch.toList≠ []:=λe=>hc0 (by
      rw[ByteArray.toList_eq]at e
      have:=congrArg List.length e;simpa using this)
     have q1:(ch.toList==([]:List UInt8))=false:=by
      cases h:ch.toList with
      |nil=>exact absurd h hne
      |cons _ _=>rfl
     have q2:ch.toList.isEmpty=false:=by
      cases h:ch.toList with
      |nil=>exact absurd h hne
      |cons _ _=>rfl
     have q3:(ch.toList= [])=False:=eq_false hne;clear hne HE4 HC3 hc0;go_wp2_with fail;obtain⟨ra,er⟩:=x_ (s.add n r.1.na bt)
     have hT2:(s.GG n r.1)=ra:=by rw[HE5.out,er]
     rw[<-er]at CA;obtain⟨s',e',c'⟩:=ra;dsimp only at CA;have HT2:=h_ hT2;obtain⟨es,ees⟩:=x_ (aK e')
     have hen:gM (e',c')= .tuple #[.agg es.toArray, .int .i64 c']:=by rw[ees];rfl
     rw[hen]at CA;have HEN:=h_ hen;have HIE:=h_ (cE es (by rw[ees];rfl));have HOE:Hid (∀u∈es,u.oneCell'=true):=h_ (by rw[ees];exact cm e');have HLE:Hid (bO.length=es.length):=h_ (by rw[ees];rfl);have hnF:∀k,w.heap.size<=k-> ¬p.F k:=λk hk hF=>by have:=H0.out.lt hF;omega
     have HNF:=h_ hnF;clear hT2 er ees hen hnF HE5;refine Fre7.dZ 8 [4,5] (λst y=>ay y w.heap.size fs 38/\ay y (w.heap.size+1) bO 42/\(st<=1->Below V.heap.size V y)/\(st=2->∃w4,Below V.heap.size V w4/\bS we w4 n p s' (.tuple #[.agg es.toArray, .int .i64 c']) (.returned (.tuple #[.agg es.toArray, .int .i64 c'])) y)) (by kernel_rfl) (by kernel_rfl) (by kernel_rfl) ⟨HF.out _ (HB4.out.trans (Below.refl _ _).drew),HEn.out _ (HB4.out.trans (Below.refl _ _).drew),λ_=>HB4.out.trans (Below.refl _ _).drew,λh=>by cases h⟩ ?_;simp only[eJ,dT];iterate 4 (first|(apply Fre7.ae (Free.wq rfl) rfl;(intro st w' hB;exact Hk.aU 38 (.tmp 3) rfl w.heap.size 0 rfl fs _ (rg_of hB.1) Tryz.underlying38 rfl HI.out);simp only[Pt])|(apply Fre7.ae (Free.wq rfl) rfl;(intro st w' hB;have k4:=hB.1.ag 3 (.int .i64 r.1.na) (by rw[EFS.out];rfl);clear hB;go_light;go_simp<;>rfl);(try simp only[Pt])))
     apply Fre7.gO (Free.wq rfl) (c:=0) rfl
     ·intro w' hB;refine Fre7.au (f:=78) (args:= #[.agg fs.toArray]) (by clear hB;go_simp<;>rfl) ?_;have hbw:=hB.2.2.1 (by decide);refine(CB.out w' hbw).mono ?_;rintro e w5 ⟨rfl,hb5⟩;exact⟨_,rfl,⟨hB.1.below hb5 hB.1.lt,hB.2.1.below hb5 hB.2.1.lt,λ_=>hbw.trans (hb5.mono hbw.size),λh=>by cases h⟩,rfl⟩
     simp only[Pt];apply Fre7.gO (Free.wq rfl) (c:=1) rfl
     ·intro w' hB;refine Fre7.au (f:=48) (args:= #[.pointer (some ⟨p.o.hb,0,none⟩), .int .i64 r.1.na, .string bt]) (by clear hB;go_simp<;>rfl) ?_;have hbw:=hB.2.2.1 (by decide);refine(CA.out w' hbw).mono ?_;intro e w5 hp5;obtain rfl:=hp5.1;have hk5:aJ p.F w' w5:=by obtain⟨_,p',_,_,_,_,h5,_⟩:=hp5;exact h5
      exact⟨_,rfl,⟨hB.1.bG (hk5.block _ hB.1.lt (HNF.out _ (aL _))),hB.2.1.bG (hk5.block _ hB.2.1.lt (HNF.out _ (by omega))),λh=>by omega,λ_=>⟨w',hbw,hp5⟩⟩,rfl⟩
     simp only[Pt];iterate 2 (apply Fre7.ae (Free.wq rfl) rfl;(intro st w' hB;clear hB;go_light;go_simp<;>rfl);(try simp only[Pt]))
     apply Fre7.ax;intro w6 hB6;obtain⟨_,hbe,_,hfin⟩:=hB6;have HBE:=h_ hbe;have HFN:=h_ (hfin rfl);clear hbe hfin;simp only[fm,fo];go_wp2_with (refine aN (.tmp 4) ?_;refine Hk.aZ rfl 42 (.tmp 4) (.tmp 37) rfl (w.heap.size+1) rfl es rfl bO 42 HBE.out HIE.out HLE.out HOE.out ?_;intro w9 h91 h92 h93;have H91:=h_ h91;have H92:=h_ h92;clear h91 h92 h93;simp only[Act.put])
     refine bodyPost_ret (v:= .tuple #[.agg es.toArray, .int .i64 c']) (Hk.aB (fn:=Tryz.f39) (p:=4) (u:=5) (ty:=42) rfl _ _ (w.heap.size+1) 42 es.toArray (0,0) _ rfl H91.out Tryz.underlying42 rfl (by rw[HIE.out];simp) rfl) rfl ?_;rw[ER.out,HT2.out];obtain⟨w4,hb4,hp4⟩:=HFN.out;dsimp only;rw[HEN.out];exact bS.tail H0.out (HBV.out.trans (hb4.mono HBV.out.size)) hp4 (by omega) (nX HLT.out hb4.size) H92.out
end Go.Proofs.YtkmbmfengcdmoaaGreatDoor
namespace Go.Proofs.YtkmbmfengcdmoaaGreatDoor
open Go.RowKit Go.W32 Go.ay Go.Cs Go.Jn Go.Dk Go.Ho Go.Opn Go.Maps Go.WideMaps Go.Apl Go.Mg Go.Rf Go.Lib Go.Cv
def iW(x:Int):Bool:=decide (1<=x)&&decide (x<=2147483646)
def oO(c:cZ)(own secret:Int)(pubs:List Int):Bool:=
 decide (jo c.iU=0)&&(decide (0<=own)&&(decide (own<c.aj)&&(decide ((pubs.length:Int)=c.aj)&&(pubs.all iW&&(decide (lA secret=0)&&decide (cQ secret=pubs.getD own.toNat 0))))))
def eP(es:List aV):dv:=es.map λe=>(aP e,e)
theorem Ay(c:NV):jo c=0\/jo c=1\/jo c=3:=by
 unfold jo;split
 ·split
  ·exact .inl rfl
  ·exact .inr (.inl rfl)
 ·exact .inr (.inr rfl)
theorem yv(es:List aV):(eP es).map (·.1)=es.map aP:=by unfold eP;rw[PS];rfl
theorem Aw{es:List aV}{k:Nat}{e:aV}(hnd:(es.map aP).Nodup)(hk:es[k]? =some e):Mk.put (eP (es.take k)) (aP e) e=eP (es.take (k+1)):=by
 have hlt:=(jS.1 hk).1;rw[Mk.mf]
 ·unfold eP;rw[zX,hk,uE];rfl
 ·intro p hp q;unfold eP at hp;obtain⟨x,hx,rfl⟩:=nS.1 hp;obtain⟨i,hi⟩:=NQ.1 hx;have hik:i<k:=by have:=(jS.1 hi).1;rw[jQ]at this;omega
  rw[qC,if_pos hik]at hi;have q':aP x=aP e:=q
  have:=kQ q';subst this;have h1:(es.map aP)[i]? =some (aP x):=by rw[mx,hi];rfl
  have h2:(es.map aP)[k]? =some (aP x):=by rw[mx,hk];rfl
  have l1:=(jS.1 h1).1
  have:=(List.getElem?_inj l1 hnd).1 (h1.trans h2.symm);omega
theorem DZ{l:List Int}{k:Nat}{x:Int}(hx:l[k]? =some x)(h:(l.take k).all iW=true)(hk:iW x=true):(l.take (k+1)).all iW=true:=by rw[zX,hx,RZ,h];simp[hk]
theorem uH{l:List Int}{k:Nat}{x:Int}(hx:l[k]? =some x)(hk:iW x=false):l.all iW=false:=by
 cases h:l.all iW with
 |false=>rfl
 |true=>rw[GJ.1 h x (ue hx)]at hk;cases hk
section
variable {we w w':World} {n:Nat} {p:Pl} {s:HS}
def GU(we w:World)(b bs bm n:Nat)(pv:Value)(c:cZ)(own secret:Int)(pubs:List Int)(js:JS)(es:List aV)(e:Ending)(w':World):Prop:=
 Below w.heap.size w w'/\((oO c own secret pubs=false/\e= .returned (.tuple #[.pointer none, .int .i64 1]))\/
  (oO c own secret pubs=true/\∃p:Pl,p.b=b/\p.bs=bs/\p.bm=bm/\p.pv=pv/\(∀k,p.F k->Fp b bs bm pv k\/w.heap.size<=k)/\e= .returned (.tuple #[.pointer (some ⟨p.o.hb,0,none⟩), .int .i64 0])/\
   HC we w' n p ⟨c.aj,c.bQ.length,c.days,own,secret,pubs,js,true,eP es⟩))
structure Made (V:World) (s0:HS) (jb:Nat) (x:Nat) (w:World):Prop where
 ex:∃o:Lo,o.hb=x/\o.jb=jb/\HR w o s0/\V.heap.size<=o.mb/\V.heap.size<=o.hb/\∀k,o.A.map (·.block)=some k->V.heap.size<=k/\k≠o.hb/\k≠o.mb/\k<w.heap.size
theorem Made.grow{V:World}{s0:HS}{jb x:Nat}(h:Made V s0 jb x w)(hb:Below w.heap.size w w'):Made V s0 jb x w':=by obtain⟨o,h1,h2,h3,h4,h5,h6⟩:=h.ex;exact⟨o,h1,h2,h3.below hb,h4,h5,λk hk=>by obtain⟨q1,q2,q3,q4⟩:=h6 k hk;exact⟨q1,q2,q3,nX q4 hb.size⟩⟩
end
structure G7 (we V w:World) (n:Nat) (p:Pl) (s:HS) (tv:Value) (r:List (List UInt8)):Prop where
 hc:HC we w n p s
 row:fY w 0 tv r
 off:∀k,tv.ownBlock=some k-> ¬p.F k
 bl:Below V.heap.size V w
theorem G7.grow{we V w w':World}{n:Nat}{p:Pl}{s:HS}{tv:Value}{r:List (List UInt8)}(h:G7 we V w n p s tv r)(hb:Below w.heap.size w w'):G7 we V w' n p s tv r:=
 ⟨h.hc.grow hb,bC h.row (λk e=>hb.block k (World.ownsRow.lt h.row k e).2),h.off,h.bl.trans (hb.mono h.bl.size)⟩
theorem G7.DK{we V w w':World}{n:Nat}{p:Pl}{s:HS}{tv:Value}{r:List (List UInt8)}{ents':dv}(h:G7 we V w n p s tv r)(hV:V.heap.size<=p.o.mb)(hm:Mk.bL w' Value.string qw fv p.o.mb ents')(hk:aJ (λk=>k=p.o.mb) w w'):G7 we V w' n p {s with aw:=ents'} tv r:=
 ⟨h.hc.DK hm hk,bC h.row (λk e=>hk.block k (World.ownsRow.lt h.row k e).2 (λq=>h.off k e (.inl (.inr (.inl q))))),h.off,h.bl.trans (hk.below (λk q=>by subst q;exact hV) h.bl.size)⟩
theorem Fe:∃i,Tryz.prog.info? 3=some i/\i.zero=some (.int .i64 0)/\i.size=1/\i.bytes=8:=by
 have h:(Tryz.prog.info? 3).map (λi=>(i.zero,i.size,i.bytes))=some (some (.int .i64 0),1,8):=by kernel_rfl
 cases hi:Tryz.prog.info? 3 with
 |none=>rw[hi]at h;cases h
 |some i=>rw[hi]at h;simp only[GK,NS,NO]at h;exact⟨i,rfl,h.1,h.2.1,h.2.2⟩
theorem Ak(A:Option Addr)(c:Nat)(l:List Int)(w:World)(hl:SL w 1 Cs.encI A l)(hn:l.length<=1000000):
  Calls Tryz.prog 66 #[.slice A l.length c] w λe w'=> ∃A' c',e= .returned (.slice A' l.length c')/\w'.ownsRow w.heap.size 3 1 (.slice A' l.length c') l.length (l.flatMap Cs.encI)/\Below w.heap.size w w':=by
 obtain⟨i,h1,h2,h3,h4⟩:=Fe;exact Cln.Eh Tryz.T7 (ec:=Cs.encI) i _ 1 8 h1 h2 h3 h4 rfl (by decide) Tryz.sizeOf3 (λ_=>rfl) (λx v hv=>by simp[Cs.encI]at hv;subst hv;rfl) A c l w hl (by unfold maxLen;omega) (by omega)
theorem Fg{we w:World}{b bs bm n:Nat}{pv:Value}{d:DD}{v:Nat×Nat×Nat}{a:Nat}{r:List (List UInt8)}(hT:cB we)(hb:Below we.heap.size we w)(hd:aI w b bs bm pv d n)(hf:∀k,Fp b bs bm pv k->we.heap.size<=k)(ho:dR n d=(0,some (v,a,r))):
  Calls Tryz.prog 65 #[.pointer (some ⟨b,0,none⟩)] w λe w'=> ∃jb rv A c,e= .returned (.tuple #[.pointer (some ⟨jb,0,none⟩), .slice A r.length c, .int .i64 0])/\
   PJ we w' jb b bs bm n pv rv ⟨d,v,a,r,false⟩/\fY w' w.heap.size (.slice A r.length c) r/\(∀k,(Value.slice A r.length c).ownBlock=some k-> ¬pD jb b bs bm pv rv k)/\Below w.heap.size w w'/\(∀k,pD jb b bs bm pv rv k->Fp b bs bm pv k\/w.heap.size<=k):=by
 refine(Jv hd).mono ?_;rintro e w' ⟨h1,⟨h2,_⟩|⟨v',a',r',jb,rv,A,c,h2,rfl,h3,h4,h5,h6,h7⟩⟩
 ·rw[ho]at h2;cases h2
 ·rw[ho]at h2;cases h2
  have hs:=hb.size;have hbb:Below we.heap.size we w':=hb.trans (h1.mono hs);refine⟨jb,rv,A,c,rfl,⟨h3,⟨hT,hbb,hf⟩,by omega,λk hk=>by have:=h5 k hk;omega⟩,h6,h7,h1, ?_⟩;rintro k (rfl|hk|hk)
  ·exact .inr h4
  ·exact .inr (h5 k hk)
  ·exact .inl hk
theorem sD{c:cZ}(h:jo c.iU=0):c.aj<=12:=by
 unfold jo at h;split at h
 ·rename_i hl;unfold sS at hl;simp only[ua,uD]at hl;exact hl.1
 ·cases h
theorem uw{V w:World}{s0:HS}{jb x12 x10:Nat}(hB:Below V.heap.size V w){c:cZ}{own secret:Int}{pubs:List Int}{js:JS}(es:s0=⟨c.aj,c.bQ.length,c.days,own,secret,pubs,js,true,[]⟩)(h12:Mk.bL w Value.string qw fv x12 ([]:dv)/\V.heap.size<=x12)
  (h10:w.ownsRow V.heap.size 3 1 (oK pubs.length x10) pubs.length (pubs.flatMap Cs.encI)):Made V s0 jb w.heap.size (w.alloc (.cells (wm ⟨w.heap.size,jb,x12,aS x10,cS x10⟩ s0).toArray 104)):=by
 have hb':Below w.heap.size w (w.alloc (.cells (wm ⟨w.heap.size,jb,x12,aS x10,cS x10⟩ s0).toArray 104)):=(Below.refl _ _).alloc (aL _) _;obtain⟨A,c',eA,_,hsl⟩:=gV (ec:=Cs.encI) (l:=pubs) (λ_=>rfl) h10;unfold oK at eA;injection eA with eA _ ec;refine⟨⟨⟨w.heap.size,jb,x12,aS x10,cS x10⟩,rfl,rfl,⟨ay.new w _ _, ?_, ?_⟩,h12.2,hB.size,λk hk=> ?_⟩⟩
 ·have:s0.aw= []:=by rw[es]
  rw[this];exact h12.1.bD (hb'.block _ h12.1.lt)
 ·have:s0.pubs=pubs:=by rw[es]
  rw[this];show SL _ 1 Cs.encI (aS x10) pubs;have hsl2:SL w 1 Cs.encI (aS x10) pubs:=by rw[eA];exact hsl
  exact hsl2.below hb' (aL _)
 ·have hk':(aS x10).map (·.block)=some k:=hk;have hob:(oK pubs.length x10).ownBlock=some k:=by
   unfold oK;cases hA:aS x10 with
   |none=>rw[hA]at hk';cases hk'
   |some ad=>rw[hA]at hk';simpa[Value.ownBlock]using hk'
  obtain⟨l1,l2⟩:=World.ownsRow.lt h10 k hob;refine⟨l1,by show k≠w.heap.size;omega, ?_,by show k<(w.alloc _).heap.size;simp;omega⟩;show k≠x12;intro e;subst e;obtain⟨es',cl,hm,_⟩:=h12.1;rcases h10.2 with⟨h1,_⟩|⟨g,cap,cur,h1,_,h4,_⟩
  ·rw[h1]at hob;cases hob
  ·rw[h1]at hob;have e:g=k:=by simpa[Value.ownBlock]using hob
   rw[e,hm]at h4;cases h4
theorem L0{we V w3:World}{B n b bs bm:Nat}{pv rv tv:Value}{js:JS}{r:List (List UInt8)}{o:Lo}{p:Pl}{jb:Nat}{s0:HS}(hp:PJ we V jb b bs bm n pv rv js)(hrow:fY V B tv r)(hoff:∀k,tv.ownBlock=some k-> ¬pD jb b bs bm pv rv k)
  (hb:Below V.heap.size V w3) (ep:p=⟨o,b,bs,bm,pv,rv⟩) (es:s0.js=js) (ej:o.jb=jb) (hr:HR w3 o s0) (m1:V.heap.size<=o.mb) (m2:V.heap.size<=o.hb) (m3:∀k,o.A.map (·.block)=some k->V.heap.size<=k/\k≠o.hb/\k≠o.mb/\k<w3.heap.size):G7 we V w3 n p s0 tv r:=by
 subst ep;have hwv:=hp.e.bl.size;have hH:∀k,Pl.H ⟨o,b,bs,bm,pv,rv⟩ k->V.heap.size<=k:=by
  rintro k (rfl|rfl|hk)
  ·exact m2
  ·exact m1
  ·exact(m3 k hk).1
 refine⟨⟨hr, ?_,λk hk=>fO hwv (hH k hk),λk hk hj=> ?_,λk hk=>⟨(m3 k hk).2.1,(m3 k hk).2.2.1,(m3 k hk).2.2.2⟩⟩,qn (bC hrow (λk e=>hb.block k (World.ownsRow.lt hrow k e).2)) (gu _),λk hk hF=> ?_,hb⟩
 ·show PJ we w3 o.jb b bs bm n pv rv s0.js;rw[es,ej];exact hp.grow hb
 ·have h1:=hH k hk;have hj':pD o.jb b bs bm pv rv k:=hj;rw[ej]at hj'
  have:=hp.j.lt hj';omega
 ·rcases hF with hk2|hk2
  ·have h1:=hH k hk2
   have:=(World.ownsRow.lt hrow k hk).2;omega
  ·have hj':pD o.jb b bs bm pv rv k:=hk2;rw[ej]at hj';exact hoff k hk hj'
theorem LY{o:Lo}{p:Pl}{b bs bm jb S0 S1 S2:Nat}{pv rv:Value}(ep:p=⟨o,b,bs,bm,pv,rv⟩)(hj:∀k,pD jb b bs bm pv rv k->Fp b bs bm pv k\/S1<=k)(m1:S2<=o.mb)(m2:S2<=o.hb)(m3:∀k,o.A.map (·.block)=some k->S2<=k)(h02:S0<=S2)(h01:S0<=S1)(ej:o.jb=jb):∀k,p.F k->Fp b bs bm pv k\/S0<=k:=by
 subst ep;rintro k ((rfl|rfl|hk)|hk)
 ·exact .inr (fO h02 m2)
 ·exact .inr (fO h02 m1)
 ·exact .inr (fO h02 (m3 k hk))
 ·have hj':pD o.jb b bs bm pv rv k:=hk;rw[ej]at hj';exact(hj k hj').imp id (λh=>fO h01 h)
theorem JU{w:World}{A:Option Addr}{tc:Nat}{r:List (List UInt8)}{es:List aV}{k:Nat}{e0:aV}(h:fY w 0 (.slice A r.length tc) r)(hr:r=es.map λe=>(aP e).data.toList)(hk:es[k]? =some e0):∃g og,A=some ⟨g,og,none⟩/\w.cell? ⟨g,og+k,none⟩=some (.string (aP e0)):=by
 have h2:w.ownsRow 0 9 1 (.slice A r.length tc) (r.map tx).length ((r.map tx).flatMap lR):=by rw[rm];exact h
 obtain⟨A',c',e,_,hs⟩:=gV (ec:=lR) (λ_=>rfl) h2;injection e with e1 _ _;subst e1;have hx:(r.map tx)[k]? =some (aP e0):=by rw[mx,hr,mx,hk];show some (tx (aP e0).data.toList)=_;congr 1
 obtain⟨b,off,e2,hc⟩:=hs.at_ hx
 have:=hc 0 (.string (aP e0)) rfl;rw[show off+(k*1+0)=off+k by omega]at this;exact⟨b,off,e2,this⟩
end Go.Proofs.YtkmbmfengcdmoaaGreatDoor
