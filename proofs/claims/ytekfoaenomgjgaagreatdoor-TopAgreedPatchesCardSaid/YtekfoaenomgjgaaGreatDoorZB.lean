/- Package system: Valid. Condition: the contract and the state lie in memory. -/
import Derived.Test.YtekfoaenomgjgaaGreatDoorSyN
import Derived.Test.YtekfoaenomgjgaaGreatDoorCvU
set_option maxRecDepth 100000
set_option linter.all false
namespace Go.Proofs.YtekfoaenomgjgaaGreatDoor
open Go.RowKit Go.W32 Go.Blk Go.Cs Go.Lib Go.Opn Go.Mg Go.Cv

theorem readyB_no{ms:List Mar}{k:Cls}{m:Mar}(h:m.status≠0):bK ms k m=false:=by
 unfold bK;simp[h]
set_option maxHeartbeats 8000000 in
theorem rdy_any(c:ConM)(s:StaM)(i:Nat)(k:Kl)(m:Mar)(W:World)(hc:ConAt W c)(hs:StaAt W s)(hk:c.kls[i]? =some k)(hm:s.marks[i]? =some m)(hr:∀x∈k.1.start,0<=x.1/\x.1<(s.marks.length:Int))(hn:c.kls.length<=4000)(hn2:s.marks.length<=4000)(hn3:k.1.start.length<=4000):
  Calls Tryz.prog 54 #[.agg (ak c).toArray, .agg (aE s).toArray, .int .i64 (i:Int)] W fun e w'=>e= .returned (.bool (bK s.marks k.1 m))/\Below W.heap.size W w':=by
 obtain⟨R,eR⟩:∃R:Ending->World->Prop,R=fun e w'=>e= .returned (.bool (bK s.marks k.1 m))/\Below W.heap.size W w':=⟨_,rfl⟩
 rw[<-eR]
 have FIN:Hid (∀w' v,v=bK s.marks k.1 m->Below W.heap.size W w'->R (.returned (.bool v)) w'):=h_ fun w' v h hb=>by rw[eR,h];exact⟨rfl,hb⟩
 clear eR
 obtain⟨cs,ecs⟩:∃cs,cs=ak c:=⟨_,rfl⟩
 obtain⟨ds,eds⟩:∃ds,ds=aE s:=⟨_,rfl⟩
 obtain⟨hr1,hr2,hb2⟩:=bu W 27 56 cs ds
 rw[<-ecs, <-eds]
 generalize eW:(W.alloc (.cells cs.toArray 27)).alloc (.cells ds.toArray 56)=W2 at*
 have E1:=h_ eW
 have hkl:=(List.getElem?_eq_some_iff.1 hk).1
 have hml:=(List.getElem?_eq_some_iff.1 hm).1
 have hi1:(i:Int)<(c.kls.length:Int):=by omega
 have hi2:(i:Int)<(s.marks.length:Int):=by omega
 have hi0:(0:Int)<=(i:Int):=by omega
 have hcA:=(hc.below hb2 (Nat.le_refl _)).k
 have hsA:=(hs.below hb2 (Nat.le_refl _)).m
 have hst:=hc.st k (List.mem_of_getElem? hk)
 obtain⟨kb,ko,eA⟩:=aC hcA (by intro e;rw[e]at hkl;simp at hkl)
 obtain⟨mb,mo,eM⟩:=aC hsA (by intro e;rw[e]at hml;simp at hml)
 have HK:Hid (∀w',Below W2.heap.size W2 w'->w'.cell? ⟨W.heap.size,4,none⟩=some (.slice (some ⟨kb,ko,none⟩) c.kls.length c.kc)/\w'.cell? ⟨W.heap.size+1,3,none⟩=some (.slice (some ⟨mb,mo,none⟩) s.marks.length s.mc)/\SL w' 2 ar k.2.1 k.1.start/\SL w' 5 ah (some ⟨mb,mo,none⟩) s.marks/\w'.cell? ⟨kb,ko+i*16+4,none⟩=some (.slice k.2.1 k.1.start.length k.2.2)/\w'.cell? ⟨kb,ko+i*16+15,none⟩=some (.bool k.1.waived)):=h_ fun w' hb=>by
  have hk':=hcA.below hb (Nat.le_refl _)
  rw[eA]at hk'
  have hrg:=az hk' hk
  refine⟨?_, ?_,hst.below (hb2.trans (hb.mono hb2.size)) (Nat.le_refl _), ?_, ?_, ?_⟩
  ·have:=(hr1.below hb hr1.lt).at (show cs[4]? =some (.slice c.kA c.kls.length c.kc) by rw[ecs];rfl)
   rw[eA]at this;exact this
  ·have:=(hr2.below hb hr2.lt).at (show ds[3]? =some (.slice s.mA s.marks.length s.mc) by rw[eds];rfl)
   rw[eM]at this;exact this
  ·rw[<-eM];exact hsA.below hb (Nat.le_refl _)
  ·exact hrg 4 _ rfl
  ·exact hrg 15 _ rfl
 obtain⟨k4,s3,_,hM,q4,q14⟩:=HK.out W2 (Below.refl _ _)
 have m0:W2.cell? ⟨mb,mo+i*5,none⟩=some (.int .i64 m.status):=(az hM hm) 0 _ rfl
 have HB2:=h_ hb2
 have HR:=h_ hr
 have HN:=h_ hn3
 have hib:(i:Int)<=4000:=by omega
 clear eW ecs eds hr1 hr2 hb2 hkl hml hcA hsA hst eA eM hc hs hk hr hn hn3 hM
 by_cases h0:m.status=0
 rotate_left
 ·have b0:(m.status !=0)=true:=by simpa using h0
  have HF:=h_ (FIN.out W2 false (readyB_no h0).symm HB2.out)
  clear FIN
  go_enter Tryz.func54,Tryz.ntmps54
  go_wp2_with (simp only[E1.out])
  exact HF.out
 have b0:(m.status !=0)=false:=by simpa using h0
 obtain⟨wv,ewv⟩:∃wv,wv=k.1.waived:=⟨_,rfl⟩
 rw[<-ewv]at q14
 have HV0:Hid (bK s.marks k.1 m=(!wv&&startB s.marks k.1)):=h_ (by unfold bK;rw[ewv,h0];rfl)
 clear ewv h0
 cases wv with
 |true=>
  have HF:=h_ (FIN.out W2 false (by rw[HV0.out];rfl) HB2.out)
  clear FIN HV0
  go_enter Tryz.func54,Tryz.ntmps54
  go_wp2_with (simp only[E1.out])
  exact HF.out
 |false=>
 obtain⟨hf,ehf⟩:∃hf:Int×Int->Bool,hf=fun x=>cp (stat s.marks x.1) x.2:=⟨_,rfl⟩
 have HV:Hid (bK s.marks k.1 m=k.1.start.all hf):=h_ (by rw[HV0.out,ehf];rfl)
 have EHF:Hid (∀x:Int×Int,hf x=cp (stat s.marks x.1) x.2):=h_ fun x=>by rw[ehf]
 clear HV0 ehf
 go_enter Tryz.func54,Tryz.ntmps54
 go_wp2_with (simp only[E1.out])
 clear m0 b0 q4 q14 k4 s3
 go_loopw [33] (fun v wr=> ∃j:Nat,v= .int .i64 (j:Int)/\j<=k.1.start.length/\Hid ((k.1.start.take j).all hf=true)/\Below W2.heap.size W2 wr) (fun v _=>(k.1.start.length:Int).toNat- (RowKit.intOf v).toNat)
 case atStart=>exact⟨0,rfl,Nat.zero_le _,h_ rfl,Below.refl _ _⟩
 case round=>
  obtain⟨j,rfl,hj,hal,hbw⟩:=hrel
  have hjb:(j:Int)<=4000:=by have:=HN.out;omega
  rcases Nat.lt_or_eq_of_le hj with hjl|hjl
  ·have hji:(j:Int)<(k.1.start.length:Int):=by omega
   obtain⟨x,ex⟩:∃x,k.1.start[j]? =some x:=⟨_,List.getElem?_eq_getElem hjl⟩
   obtain⟨_,_,hS,_,_,_⟩:=HK.out wr hbw
   obtain⟨sb,so,eS⟩:=aC hS (by intro e;rw[e]at hjl;simp at hjl)
   rw[eS]at hS⊢
   obtain⟨es,ees⟩:∃es,es=ar x:=⟨_,rfl⟩
   have hel:es.length=2:=by rw[ees];rfl
   have HMs:Hid (wr.rangeAt sb (so+j*2) es):=h_ (by rw[ees];exact az hS ex)
   have HIs:=h_ (info_cd es hel)
   obtain⟨Wk,ek⟩:∃Wk,Wk=wr.alloc (.cells es.toArray 133):=⟨_,rfl⟩
   have hrk:Row Wk wr.heap.size 133 es:=by rw[ek];exact Row.new _ _ _
   have hbk:Below wr.heap.size wr Wk:=by rw[ek];exact(Below.refl _ _).alloc (Nat.le_refl _) _
   have HSs:=h_ (store_cd hel (by rw[ees];exact encCd_one x) 8 36 wr Wk _ rfl ek)
   have HBk:=h_ (hbw.trans (hbk.mono hbw.size))
   obtain⟨n,hxn⟩:∃n:Nat,x.1=(n:Int):=⟨x.1.toNat,by have:=(HR.out x (List.mem_of_getElem? ex)).1;omega⟩
   have hnl:n<s.marks.length:=by have:=(HR.out x (List.mem_of_getElem? ex)).2;omega
   obtain⟨y,ey⟩:∃y,s.marks[n]? =some y:=⟨_,List.getElem?_eq_getElem hnl⟩
   have x0:=hrk.at (show es[0]? =some (.int .i64 (n:Int)) by rw[ees, <-hxn];rfl)
   have x1:=hrk.at (show es[1]? =some (.int .i64 x.2) by rw[ees];rfl)
   obtain⟨_,s3,_,hMk,_,_⟩:=HK.out Wk HBk.out
   have y0:Wk.cell? ⟨mb,mo+n*5,none⟩=some (.int .i64 y.status):=(az hMk ey) 0 _ rfl
   have hni:(n:Int)<(s.marks.length:Int):=by omega
   have hn0:(0:Int)<=(n:Int):=by omega
   have HST:Hid (stat s.marks x.1=y.status):=h_ (by unfold stat;rw[hxn,Int.toNat_natCast,ey])
   have ES:=h_ ex
   clear ees hel ek hrk hbk ex hS eS hbw hj hxn hnl ey hMk
   by_cases i1:x.2=1
   ·have c1:(x.2==1)=true:=by simpa using i1
    by_cases t1:y.status=0
    ·have d1:(y.status !=0)=false:=by simpa using t1
     have EV:Hid (hf x=false):=h_ (by rw[EHF.out];unfold cp;rw[HST.out];simp[i1,t1])
     have HF:=h_ (FIN.out Wk false (by rw[HV.out,bm ES.out EV.out]) (HB2.out.trans (HBk.out.mono HB2.out.size)))
     go_wp2_with (first
      |(refine ae (.tmp 36) ?_;refine wpList_load_mid rfl 133 (.tmp 36) rfl sb (so+j*2) rfl es _ HMs.out Tryz.underlying133 rfl HIs.out ?_)
      |(refine ae (.tmp 35) ?_;refine wpList_load_mid rfl 133 (.tmp 35) rfl sb (so+j*2) rfl es _ HMs.out Tryz.underlying133 rfl HIs.out ?_)
      |(refine ai (.tmp 8) ?_;refine HSs.out _ _ _ _ _ rfl rfl rfl rfl _ (by simp) ?_;simp only[Pt]))
     exact HF.out
    ·have d1:(y.status !=0)=true:=by simpa using t1
     have EV:Hid (hf x=true):=h_ (by rw[EHF.out];unfold cp;rw[HST.out];simp[i1,t1])
     clear FIN
     go_wp2_with (first
      |(refine ae (.tmp 36) ?_;refine wpList_load_mid rfl 133 (.tmp 36) rfl sb (so+j*2) rfl es _ HMs.out Tryz.underlying133 rfl HIs.out ?_)
      |(refine ae (.tmp 35) ?_;refine wpList_load_mid rfl 133 (.tmp 35) rfl sb (so+j*2) rfl es _ HMs.out Tryz.underlying133 rfl HIs.out ?_)
      |(refine ai (.tmp 8) ?_;refine HSs.out _ _ _ _ _ rfl rfl rfl rfl _ (by simp) ?_;simp only[Pt]))
     go_roundw
     case rel=>exact⟨j+1,rfl,hjl,h_ (ct ES.out hal.out EV.out),HBk.out⟩
     case measure=>simp[RowKit.intOf];omega
   have c1:(x.2==1)=false:=by simpa using i1
   by_cases i2:x.2=2
   ·have c2:(x.2==2)=true:=by simpa using i2
    by_cases t1:y.status=3
    ·have d1:(y.status==3)=true:=by simpa using t1
     have EV:Hid (hf x=true):=h_ (by rw[EHF.out];unfold cp;rw[HST.out];simp[i2,t1])
     clear FIN
     go_wp2_with (first
      |(refine ae (.tmp 36) ?_;refine wpList_load_mid rfl 133 (.tmp 36) rfl sb (so+j*2) rfl es _ HMs.out Tryz.underlying133 rfl HIs.out ?_)
      |(refine ae (.tmp 35) ?_;refine wpList_load_mid rfl 133 (.tmp 35) rfl sb (so+j*2) rfl es _ HMs.out Tryz.underlying133 rfl HIs.out ?_)
      |(refine ai (.tmp 8) ?_;refine HSs.out _ _ _ _ _ rfl rfl rfl rfl _ (by simp) ?_;simp only[Pt]))
     go_roundw
     case rel=>exact⟨j+1,rfl,hjl,h_ (ct ES.out hal.out EV.out),HBk.out⟩
     case measure=>simp[RowKit.intOf];omega
    ·have d1:(y.status==3)=false:=by simpa using t1
     have EV:Hid (hf x=false):=h_ (by rw[EHF.out];unfold cp;rw[HST.out];simp[i2,t1])
     have HF:=h_ (FIN.out Wk false (by rw[HV.out,bm ES.out EV.out]) (HB2.out.trans (HBk.out.mono HB2.out.size)))
     go_wp2_with (first
      |(refine ae (.tmp 36) ?_;refine wpList_load_mid rfl 133 (.tmp 36) rfl sb (so+j*2) rfl es _ HMs.out Tryz.underlying133 rfl HIs.out ?_)
      |(refine ae (.tmp 35) ?_;refine wpList_load_mid rfl 133 (.tmp 35) rfl sb (so+j*2) rfl es _ HMs.out Tryz.underlying133 rfl HIs.out ?_)
      |(refine ai (.tmp 8) ?_;refine HSs.out _ _ _ _ _ rfl rfl rfl rfl _ (by simp) ?_;simp only[Pt]))
     exact HF.out
   have c2:(x.2==2)=false:=by simpa using i2
   by_cases i3:x.2=3
   ·have c3:(x.2==3)=true:=by simpa using i3
    by_cases t1:y.status=4
    ·have d1:(y.status==4)=true:=by simpa using t1
     have EV:Hid (hf x=true):=h_ (by rw[EHF.out];unfold cp;rw[HST.out];simp[i3,t1])
     clear FIN
     go_wp2_with (first
      |(refine ae (.tmp 36) ?_;refine wpList_load_mid rfl 133 (.tmp 36) rfl sb (so+j*2) rfl es _ HMs.out Tryz.underlying133 rfl HIs.out ?_)
      |(refine ae (.tmp 35) ?_;refine wpList_load_mid rfl 133 (.tmp 35) rfl sb (so+j*2) rfl es _ HMs.out Tryz.underlying133 rfl HIs.out ?_)
      |(refine ai (.tmp 8) ?_;refine HSs.out _ _ _ _ _ rfl rfl rfl rfl _ (by simp) ?_;simp only[Pt]))
     go_roundw
     case rel=>exact⟨j+1,rfl,hjl,h_ (ct ES.out hal.out EV.out),HBk.out⟩
     case measure=>simp[RowKit.intOf];omega
    ·have d1:(y.status==4)=false:=by simpa using t1
     have EV:Hid (hf x=false):=h_ (by rw[EHF.out];unfold cp;rw[HST.out];simp[i3,t1])
     have HF:=h_ (FIN.out Wk false (by rw[HV.out,bm ES.out EV.out]) (HB2.out.trans (HBk.out.mono HB2.out.size)))
     go_wp2_with (first
      |(refine ae (.tmp 36) ?_;refine wpList_load_mid rfl 133 (.tmp 36) rfl sb (so+j*2) rfl es _ HMs.out Tryz.underlying133 rfl HIs.out ?_)
      |(refine ae (.tmp 35) ?_;refine wpList_load_mid rfl 133 (.tmp 35) rfl sb (so+j*2) rfl es _ HMs.out Tryz.underlying133 rfl HIs.out ?_)
      |(refine ai (.tmp 8) ?_;refine HSs.out _ _ _ _ _ rfl rfl rfl rfl _ (by simp) ?_;simp only[Pt]))
     exact HF.out
   have c3:(x.2==3)=false:=by simpa using i3
   by_cases i4:x.2=4
   ·have c4:(x.2==4)=true:=by simpa using i4
    by_cases t1:y.status=5
    ·have d1:(y.status==5)=true:=by simpa using t1
     have EV:Hid (hf x=true):=h_ (by rw[EHF.out];unfold cp;rw[HST.out];simp[i4,t1])
     clear FIN
     go_wp2_with (first
      |(refine ae (.tmp 36) ?_;refine wpList_load_mid rfl 133 (.tmp 36) rfl sb (so+j*2) rfl es _ HMs.out Tryz.underlying133 rfl HIs.out ?_)
      |(refine ae (.tmp 35) ?_;refine wpList_load_mid rfl 133 (.tmp 35) rfl sb (so+j*2) rfl es _ HMs.out Tryz.underlying133 rfl HIs.out ?_)
      |(refine ai (.tmp 8) ?_;refine HSs.out _ _ _ _ _ rfl rfl rfl rfl _ (by simp) ?_;simp only[Pt]))
     go_roundw
     case rel=>exact⟨j+1,rfl,hjl,h_ (ct ES.out hal.out EV.out),HBk.out⟩
     case measure=>simp[RowKit.intOf];omega
    ·have d1:(y.status==5)=false:=by simpa using t1
     have EV:Hid (hf x=false):=h_ (by rw[EHF.out];unfold cp;rw[HST.out];simp[i4,t1])
     have HF:=h_ (FIN.out Wk false (by rw[HV.out,bm ES.out EV.out]) (HB2.out.trans (HBk.out.mono HB2.out.size)))
     go_wp2_with (first
      |(refine ae (.tmp 36) ?_;refine wpList_load_mid rfl 133 (.tmp 36) rfl sb (so+j*2) rfl es _ HMs.out Tryz.underlying133 rfl HIs.out ?_)
      |(refine ae (.tmp 35) ?_;refine wpList_load_mid rfl 133 (.tmp 35) rfl sb (so+j*2) rfl es _ HMs.out Tryz.underlying133 rfl HIs.out ?_)
      |(refine ai (.tmp 8) ?_;refine HSs.out _ _ _ _ _ rfl rfl rfl rfl _ (by simp) ?_;simp only[Pt]))
     exact HF.out
   have c4:(x.2==4)=false:=by simpa using i4
   have EV:Hid (hf x=false):=h_ (by rw[EHF.out];unfold cp;rw[HST.out];simp[i1,i2,i3,i4])
   have HF:=h_ (FIN.out Wk false (by rw[HV.out,bm ES.out EV.out]) (HB2.out.trans (HBk.out.mono HB2.out.size)))
   go_wp2_with (first
    |(refine ae (.tmp 36) ?_;refine wpList_load_mid rfl 133 (.tmp 36) rfl sb (so+j*2) rfl es _ HMs.out Tryz.underlying133 rfl HIs.out ?_)
    |(refine ae (.tmp 35) ?_;refine wpList_load_mid rfl 133 (.tmp 35) rfl sb (so+j*2) rfl es _ HMs.out Tryz.underlying133 rfl HIs.out ?_)
    |(refine ai (.tmp 8) ?_;refine HSs.out _ _ _ _ _ rfl rfl rfl rfl _ (by simp) ?_;simp only[Pt]))
   exact HF.out
  ·have hji: ¬(j:Int)<(k.1.start.length:Int):=by omega
   have HF:=h_ (FIN.out wr true (by have:=hal.out;rw[List.take_of_length_le (by omega)]at this;rw[HV.out,this]) (HB2.out.trans (hbw.mono HB2.out.size)))
   clear FIN hal hbw hj
   go_wp2_with fail
   exact HF.out
end Go.Proofs.YtekfoaenomgjgaaGreatDoor
namespace Go.Proofs.YtekfoaenomgjgaaGreatDoor
open Go.RowKit Go.W32 Go.Blk Go.Cs Go.Lib Go.Opn Go.Mg Go.Cv

theorem conds_in{c:Con}{i:Nat}{k:Cls}(h:bq c i k=true):k.start.length<=8/\∀x∈k.start,0<=x.1/\x.1<(c.cls.length:Int):=by
 unfold bq at h
 simp only[Bool.and_eq_true,decide_eq_true_eq,List.all_eq_true]at h
 refine⟨h.2.1.2,fun x hx=> ?_⟩
 have:=h.2.2.1 x hx
 unfold condV at this
 simp only[Bool.and_eq_true,decide_eq_true_eq]at this
 exact this.1
set_option maxHeartbeats 8000000 in
theorem sysv_any(c:ConM)(s:StaM)(W:World)(hc:ConAt W c)(hz:ConSz c)(hs:StaAt W s):Calls Tryz.prog 20 #[.agg (ak c).toArray, .agg (aE s).toArray] W fun e w'=>e= .returned (.bool (sysB c.con s.sta))/\Below W.heap.size W w':=by
 obtain⟨R,eR⟩:∃R:Ending->World->Prop,R=fun e w'=>e= .returned (.bool (sysB c.con s.sta))/\Below W.heap.size W w':=⟨_,rfl⟩
 rw[<-eR]
 have FIN:Hid (∀w' v,v=sysB c.con s.sta->Below W.heap.size W w'->R (.returned (.bool v)) w'):=h_ fun w' v h hb=>by rw[eR,h];exact⟨rfl,hb⟩
 clear eR
 obtain⟨cs,ecs⟩:∃cs,cs=ak c:=⟨_,rfl⟩
 obtain⟨ds,eds⟩:∃ds,ds=aE s:=⟨_,rfl⟩
 obtain⟨hr1,hr2,hb1⟩:=bu W 27 56 cs ds
 rw[<-ecs, <-eds]
 generalize eW:(W.alloc (.cells cs.toArray 27)).alloc (.cells ds.toArray 56)=W1 at*
 have E1:=h_ eW
 have HK:Hid (∀w',Below W1.heap.size W1 w'->ConC w' W.heap.size c/\StaC w' (W.heap.size+1) s/\w'.rangeAt W.heap.size 0 cs/\w'.rangeAt (W.heap.size+1) 0 ds/\ConAt w' c/\StaAt w' s/\Below W.heap.size W w'):=h_ fun w' hb=>by
  have hbw:=hb1.trans (hb.mono hb1.size)
  exact⟨ConC.of (T:=27) (by rw[<-ecs];exact hr1.below hb hr1.lt),StaC.of (T:=56) (by rw[<-eds];exact hr2.below hb hr2.lt),(hr1.below hb hr1.lt).rg,(hr2.below hb hr2.lt).rg,hc.below hbw (Nat.le_refl _),hs.below hbw (Nat.le_refl _),hbw⟩
 have HIC:=h_ (aK cs (by rw[ecs];rfl))
 have HIS:=h_ (dc ds (by rw[eds];rfl))
 have CV:=dJ c W1 (HK.out W1 (Below.refl _ _)).2.2.2.2.1 hz
 rw[<-ecs]at CV
 have CV:=h_ CV
 have HML:=h_ (HK.out W1 (Below.refl _ _)).2.2.1
 have ECS:=h_ ecs
 have EDS:=h_ eds
 clear eW ecs eds hr1 hr2 hb1 hc hz hs
 go_enter Tryz.func20,Tryz.ntmps20
 go_wp2_with (first
  |(simp only[E1.out])
  |(refine ae (.tmp 2) ?_;refine wpList_load_mid rfl 27 (.tmp 2) rfl W.heap.size 0 rfl cs _ HML.out Tryz.underlying27 rfl HIC.out ?_))
 refine CV.out.mono ?_
 rintro e w2 ⟨⟨ix,rfl⟩,hb2⟩
 obtain⟨⟨k0,k1,_,k3,k4,k5,_⟩,⟨s0,s1,s2,s3⟩,_,_,_,_,hbw2⟩:=HK.out w2 hb2
 have HB2:=h_ hb2
 have HBW2:=h_ hbw2
 obtain⟨ec,eec⟩:∃ec,ec=dx c.con:=⟨_,rfl⟩
 rw[<-eec]
 clear CV HML hb2 hbw2
 by_cases h0:ec=0
 rotate_left
 ·have q:(ec !=0)=true:=by simpa using h0
  have HF:=h_ (FIN.out w2 false (by unfold sysB;rw[<-eec];simp[h0]) HBW2.out)
  clear FIN eec
  go_wp2_with fail
  exact HF.out
 have q:(ec !=0)=false:=by simpa using h0
 have HEC:Hid (dx c.con=0):=h_ (by rw[<-eec];exact h0)
 have HSH:=h_ (ci HEC.out)
 have HV:Hid (sysB c.con s.sta=((decide (0<=s.day)&&(decide (s.day<=c.days)&&(decide (s.holders.length=c.holders.length)&&(decide (s.used.length=c.acts.length)&&decide (s.marks.length=c.kls.length)))))&&(heldC c.parties s.holders&&(usedB c.acts s.used&&(List.range s.marks.length).all (okB c.con s.sta))))):=h_ (by
  unfold sysB
  rw[HEC.out,beq_self_eq_true,Bool.true_and]
  unfold shapeB
  rw[show c.con.cls.length=c.kls.length from List.length_map _]
  rfl)
 clear eec h0
 by_cases h1:0<=s.day
 rotate_left
 ·have q1:decide (s.day<0)=true:=decide_eq_true (by omega)
  have HF:=h_ (FIN.out w2 false (by rw[HV.out];simp[h1]) HBW2.out)
  clear FIN HV
  go_wp2_with fail
  exact HF.out
 have q1:decide (s.day<0)=false:=decide_eq_false (by omega)
 by_cases h2:s.day<=c.days
 rotate_left
 ·have q2:decide (c.days<s.day)=true:=decide_eq_true (by omega)
  have HF:=h_ (FIN.out w2 false (by rw[HV.out];simp[h2]) HBW2.out)
  clear FIN HV
  go_wp2_with fail
  exact HF.out
 have q2:decide (c.days<s.day)=false:=decide_eq_false (by omega)
 by_cases h3:s.holders.length=c.holders.length
 rotate_left
 ·have q3:((s.holders.length:Int) !=(c.holders.length:Int))=true:=by simp;omega
  have HF:=h_ (FIN.out w2 false (by rw[HV.out];simp[h3]) HBW2.out)
  clear FIN HV
  go_wp2_with fail
  exact HF.out
 have q3:((s.holders.length:Int) !=(c.holders.length:Int))=false:=by simp;omega
 by_cases h4:s.used.length=c.acts.length
 rotate_left
 ·have q4:((s.used.length:Int) !=(c.acts.length:Int))=true:=by simp;omega
  have HF:=h_ (FIN.out w2 false (by rw[HV.out];simp[h4]) HBW2.out)
  clear FIN HV
  go_wp2_with fail
  exact HF.out
 have q4:((s.used.length:Int) !=(c.acts.length:Int))=false:=by simp;omega
 by_cases h5:s.marks.length=c.kls.length
 rotate_left
 ·have q5:((s.marks.length:Int) !=(c.kls.length:Int))=true:=by simp;omega
  have HF:=h_ (FIN.out w2 false (by rw[HV.out];simp[h5]) HBW2.out)
  clear FIN HV
  go_wp2_with fail
  exact HF.out
 have q5:((s.marks.length:Int) !=(c.kls.length:Int))=false:=by simp;omega
 have HV2:Hid (sysB c.con s.sta=(heldC c.parties s.holders&&(usedB c.acts s.used&&(List.range s.marks.length).all (okB c.con s.sta)))):=h_ (by rw[HV.out];simp[h1,h2,h3,h4,h5])
 have L3:=h_ h3
 have L4:=h_ h4
 have L5:=h_ h5
 clear HV h1 h2 h3 h4 h5
 go_wp2_with fail
 clear q q1 q2 q3 q4 q5 k0 k1 k3 k4 k5 s0 s1 s2 s3
 obtain⟨hp,ehp⟩:∃hp:Int->Bool,hp=fun h=>decide (0<=h)&&decide (h<c.parties):=⟨_,rfl⟩
 have HHP:Hid (∀h,hp h=(decide (0<=h)&&decide (h<c.parties))):=h_ fun h=>by rw[ehp]
 have HV3:Hid (sysB c.con s.sta=(s.holders.all hp&&(usedB c.acts s.used&&(List.range s.marks.length).all (okB c.con s.sta)))):=h_ (by rw[HV2.out,ehp];rfl)
 clear HV2 ehp
 go_loopw [59] (fun v wr=> ∃j:Nat,v= .int .i64 (j:Int)/\j<=s.holders.length/\Hid ((s.holders.take j).all hp=true)/\Below W1.heap.size W1 wr) (fun v _=>(s.holders.length:Int).toNat- (RowKit.intOf v).toNat)
 case atStart=>exact⟨0,rfl,Nat.zero_le _,h_ rfl,HB2.out⟩
 case round=>
  obtain⟨j,rfl,hj,hal,hbw⟩:=hrel
  have hjb:(j:Int)<=12:=by have:=HSH.out.h;have:=L3.out;omega
  rcases Nat.lt_or_eq_of_le hj with hjl|hjl
  ·have hji:(j:Int)<(s.holders.length:Int):=by omega
   obtain⟨x,ex⟩:∃x,s.holders[j]? =some x:=⟨_,List.getElem?_eq_getElem hjl⟩
   obtain⟨⟨k0,_,_,_,_,_,_⟩,_,_,_,_,hat,_⟩:=HK.out wr hbw
   have hO:=hat.h
   obtain⟨b,off,eO⟩:=aC hO (by intro e;rw[e]at hjl;simp at hjl)
   rw[eO]at hO⊢
   have cd:=bR hO ex
   have EX:=h_ ex
   have HBW:=h_ hbw
   clear ex hO eO hat hbw hj
   by_cases h1:0<=x
   rotate_left
   ·have q1:decide (x<0)=true:=decide_eq_true (by omega)
    have HF:=h_ (FIN.out wr false (by rw[HV3.out,bm EX.out (by rw[HHP.out];simp[h1])];rfl) (HK.out wr HBW.out).2.2.2.2.2.2)
    clear FIN HV3
    go_wp2_with fail
    exact HF.out
   have q1:decide (x<0)=false:=decide_eq_false (by omega)
   by_cases h2:x<c.parties
   rotate_left
   ·have q2:decide (c.parties<=x)=true:=decide_eq_true (by omega)
    have HF:=h_ (FIN.out wr false (by rw[HV3.out,bm EX.out (by rw[HHP.out];simp[h2])];rfl) (HK.out wr HBW.out).2.2.2.2.2.2)
    clear FIN HV3
    go_wp2_with fail
    exact HF.out
   have q2:decide (c.parties<=x)=false:=decide_eq_false (by omega)
   have EV:Hid (hp x=true):=h_ (by rw[HHP.out];simp[h1,h2])
   go_wp2_with fail
   go_roundw
   case rel=>exact⟨j+1,rfl,hjl,h_ (ct EX.out hal.out EV.out),HBW.out⟩
   case measure=>simp[RowKit.intOf];omega
  ·have hji: ¬(j:Int)<(s.holders.length:Int):=by omega
   have HV4:Hid (sysB c.con s.sta=(usedB c.acts s.used&&(List.range s.marks.length).all (okB c.con s.sta))):=h_ (by
    have:=hal.out
    rw[List.take_of_length_le (by omega)]at this
    rw[HV3.out,this];rfl)
   obtain⟨_,⟨_,_,s2,_⟩,_,_,_,_,_⟩:=HK.out wr hbw
   have HBo:=h_ hbw
   clear HV3 hbw hal hj hjl
   go_wp2_with fail
   clear s2
   obtain⟨up,eup⟩:∃up:Nat->Bool,up=fun a=>match s.used[a]?,c.acts[a]? with|some u,some t=> !(u&&(t.kind==1))|_,_=>true:=⟨_,rfl⟩
   have HUP:Hid (∀a u t,s.used[a]? =some u->c.acts[a]? =some t->up a= !(u&&(t.kind==1))):=h_ fun a u t h1 h2=>by rw[eup];simp only[h1,h2]
   have HV5:Hid (sysB c.con s.sta=((List.range s.used.length).all up&&(List.range s.marks.length).all (okB c.con s.sta))):=h_ (by rw[HV4.out,eup];rfl)
   clear HV4 eup
   go_loopw [75] (fun v wr=> ∃j:Nat,v= .int .i64 (j:Int)/\j<=s.used.length/\Hid ((List.range j).all up=true)/\Below W1.heap.size W1 wr) (fun v _=>(s.used.length:Int).toNat- (RowKit.intOf v).toNat)
   case atStart=>exact⟨0,rfl,Nat.zero_le _,h_ rfl,HBo.out⟩
   case round=>
    obtain⟨j,rfl,hj,hal,hbw⟩:=hrel
    have hjb:(j:Int)<=60:=by have:=HSH.out.a;have:=L4.out;omega
    rcases Nat.lt_or_eq_of_le hj with hjl|hjl
    ·have hji:(j:Int)<(s.used.length:Int):=by omega
     have hja:(j:Int)<(c.acts.length:Int):=by have:=L4.out;omega
     have hj0:(0:Int)<=(j:Int):=by omega
     obtain⟨u,eu⟩:∃x,s.used[j]? =some x:=⟨_,List.getElem?_eq_getElem hjl⟩
     obtain⟨t,et⟩:∃x,c.acts[j]? =some x:=⟨_,List.getElem?_eq_getElem (by omega)⟩
     obtain⟨⟨_,_,_,k3,_,_,_⟩,_,_,_,hac,hat,_⟩:=HK.out wr hbw
     have hU:=hat.u
     have hA:=hac.a
     obtain⟨b,off,eO⟩:=aC hU (by intro e;rw[e]at hjl;simp at hjl)
     obtain⟨ab,ao,eA⟩:=aC hA (by intro e;rw[e]at et;simp at et)
     rw[eO]at hU⊢
     rw[eA]at hA k3
     have cd:wr.cell? ⟨b,off+j,none⟩=some (.bool u):=by have h:=(az hU eu) 0 _ rfl;rw[Nat.mul_one]at h;exact h
     have ck:wr.cell? ⟨ab,ao+j*7,none⟩=some (.int .i64 t.kind):=(az hA et) 0 _ rfl
     have EU:=h_ (HUP.out j u t eu et)
     have HBW:=h_ hbw
     clear eu et hU hA eO eA hat hac hbw hj
     cases u with
     |false=>
      have EV:Hid (up j=true):=h_ (by rw[EU.out];rfl)
      go_wp2_with fail
      go_roundw
      case rel=>exact⟨j+1,rfl,hjl,h_ (dA hal.out EV.out hjl),HBW.out⟩
      case measure=>simp[RowKit.intOf];omega
     |true=>
      by_cases h1:t.kind=1
      ·have q1:(t.kind==1)=true:=by simpa using h1
       have HF:=h_ (FIN.out wr false (by rw[HV5.out,dB hjl (by rw[EU.out,q1];rfl)];rfl) (HK.out wr HBW.out).2.2.2.2.2.2)
       clear FIN HV5
       go_wp2_with fail
       exact HF.out
      ·have q1:(t.kind==1)=false:=by simpa using h1
       have EV:Hid (up j=true):=h_ (by rw[EU.out,q1];rfl)
       go_wp2_with fail
       go_roundw
       case rel=>exact⟨j+1,rfl,hjl,h_ (dA hal.out EV.out hjl),HBW.out⟩
       case measure=>simp[RowKit.intOf];omega
    ·have hji: ¬(j:Int)<(s.used.length:Int):=by omega
     obtain⟨op,eop⟩:∃op,op=okB c.con s.sta:=⟨_,rfl⟩
     have HV6:Hid (sysB c.con s.sta=(List.range s.marks.length).all op):=h_ (by rw[HV5.out, <-hjl,hal.out,eop];rfl)
     have HOP:Hid (∀i m (k:Kl),s.marks[i]? =some m->c.kls[i]? =some k->op i=(aR c.parties k.1 m&& !bK s.marks k.1 m)):=h_ fun i m k h1 h2=>by
      rw[eop]
      unfold okB
      have h3:c.con.cls[i]? =some k.1:=by show(c.kls.map Prod.fst)[i]? =_;rw[List.getElem?_map,h2];rfl
      have h4:s.sta.marks[i]? =some m:=h1
      simp only[h3,h4]
      rfl
     obtain⟨_,⟨_,_,_,s3⟩,_,_,_,_,_⟩:=HK.out wr hbw
     have HBp:=h_ hbw
     clear HV5 hbw hal hj hjl eop HBo
     go_wp2_with fail
     clear s3
     go_loopw [94] (fun v wr=> ∃i:Nat,v= .int .i64 (i:Int)/\i<=s.marks.length/\Hid ((List.range i).all op=true)/\Below W1.heap.size W1 wr) (fun v _=>(s.marks.length:Int).toNat- (RowKit.intOf v).toNat)
     case atStart=>exact⟨0,rfl,Nat.zero_le _,h_ rfl,HBp.out⟩
     case round=>
      obtain⟨i,rfl,hi,hal,hbw⟩:=hrel
      have hib:(i:Int)<=400:=by have:=HSH.out.k;have:=L5.out;omega
      rcases Nat.lt_or_eq_of_le hi with hil|hil
      ·have hii:(i:Int)<(s.marks.length:Int):=by omega
       have hi0:(0:Int)<=(i:Int):=by omega
       obtain⟨m,em⟩:∃x,s.marks[i]? =some x:=⟨_,List.getElem?_eq_getElem hil⟩
       obtain⟨k,ek⟩:∃x,c.kls[i]? =some x:=⟨_,List.getElem?_eq_getElem (by have:=L5.out;omega)⟩
       have ek':c.con.cls[i]? =some k.1:=by show(c.kls.map Prod.fst)[i]? =_;rw[List.getElem?_map,ek];rfl
       obtain⟨c1,c2⟩:=conds_in ((cE HEC.out).2.2 i k.1 ek')
       have c3:∀x∈k.1.start,0<=x.1/\x.1<(s.marks.length:Int):=fun x hx=>by
        have h:=c2 x hx
        rw[show c.con.cls.length=c.kls.length from List.length_map _]at h
        have:=L5.out
        omega
       have n1:c.kls.length<=4000:=by have:=HSH.out.k;omega
       have n2:s.marks.length<=4000:=by have:=L5.out;omega
       have hM:=(HK.out wr hbw).2.2.2.2.2.1.m
       obtain⟨mb,mo,eM⟩:=aC hM (by intro e;rw[e]at hil;simp at hil)
       have HMA:Hid (s.mA=some ⟨mb,mo,none⟩):=h_ eM
       obtain⟨es,ees⟩:∃es,es=ah m:=⟨_,rfl⟩
       have HBr:=h_ hbw
       have HMM:Hid (∀w',Below wr.heap.size wr w'->w'.rangeAt mb (mo+i*5) es):=h_ fun w' hb=>by
        have h:=(HK.out w' (hbw.trans (hb.mono hbw.size))).2.2.2.2.2.1.m
        rw[eM]at h
        rw[ees];exact az h em
       have HIM:=h_ (bV es (by rw[ees];rfl))
       obtain⟨MB,eMB⟩:∃MB,MB=aR c.parties k.1 m:=⟨_,rfl⟩
       obtain⟨RB,eRB⟩:∃RB,RB=bK s.marks k.1 m:=⟨_,rfl⟩
       have CMK:Hid (∀w',Below wr.heap.size wr w'->Calls Tryz.prog 53 #[.agg cs.toArray, .int .i64 (i:Int), .agg es.toArray] w' fun e w''=>e= .returned (.bool MB)/\Below w'.heap.size w' w''):=h_ fun w' hb=>by
        have h:=mark_any c i k m w' (HK.out w' (hbw.trans (hb.mono hbw.size))).2.2.2.2.1 ek n1
        rw[<-ECS.out, <-ees, <-eMB]at h;exact h
       have CRD:Hid (∀w',Below wr.heap.size wr w'->Calls Tryz.prog 54 #[.agg cs.toArray, .agg ds.toArray, .int .i64 (i:Int)] w' fun e w''=>e= .returned (.bool RB)/\Below w'.heap.size w' w''):=h_ fun w' hb=>by
        have h:=rdy_any c s i k m w' (HK.out w' (hbw.trans (hb.mono hbw.size))).2.2.2.2.1 (HK.out w' (hbw.trans (hb.mono hbw.size))).2.2.2.2.2.1 ek em c3 n1 n2 (by omega)
        rw[<-ECS.out, <-EDS.out, <-eRB]at h;exact h
       have EOP:Hid (op i=(MB&& !RB)):=h_ (by rw[HOP.out i m k em ek,eMB,eRB])
       clear em ek ek' c1 c2 c3 n1 n2 hM eM ees eMB eRB hbw hi
       have HKF:Hid (∀w6,Below wr.heap.size wr w6->Below W1.heap.size W1 w6/\Below W.heap.size W w6):=h_ fun w6 hb=>⟨HBr.out.trans (hb.mono HBr.out.size),(HK.out w6 (HBr.out.trans (hb.mono HBr.out.size))).2.2.2.2.2.2⟩
       cases MB with
       |false=>
        go_wp2_with fail
        refine Free.wp_region_free 15 [(7, .det (.bool false)),(13, .det (.bool RB))] (fun w'=>Below wr.heap.size wr w') (by kernel_rfl) (by kernel_rfl) (Free.mono_det (fun j mk r hf=>by simp only[Free.find]at hf;repeat' (first|cases hf|split at hf))) (Below.refl _ _).drew (fun _ _ h g=>h.trans (Below.mono g h.size)) ?_
        simp only[List.take_succ_cons,List.take_zero]
        apply Free.chain_still (by first|exact Free.wanted_of rfl rfl rfl|rfl) rfl
        ·intro w' hB hA
         exact Hk.exec_mid 27 (.tmp 2) rfl W.heap.size 0 rfl cs _ (HK.out w' (HBr.out.trans (hB.mono HBr.out.size))).2.2.1 Tryz.underlying27 rfl HIC.out
        simp only[Pt]
        iterate 5 (apply Free.chain_still (by first|exact Free.wanted_of rfl rfl rfl|rfl) rfl;(intro w' hB hA;have s3:=(HK.out w' (HBr.out.trans (hB.mono HBr.out.size))).2.1.s3;clear hA hB;rw[HMA.out]at s3;go_light;go_simp<;>rfl);(try simp only[Pt]))
        apply Free.chain_still (by first|exact Free.wanted_of rfl rfl rfl|rfl) rfl
        ·intro w' hB hA
         exact Hk.exec_mid 66 (.tmp 102) rfl mb (mo+i*5) rfl es _ (HMM.out w' hB) Tryz.underlying66 rfl HIM.out
        simp only[Pt]
        apply Free.chain_det (by first|exact Free.wanted_of rfl rfl rfl|rfl) rfl
        ·intro w' hB hA
         refine Free.opRun_call (f:=53) (args:= #[.agg cs.toArray, .int .i64 (i:Int), .agg es.toArray]) (by clear hB hA;go_simp<;>rfl) ?_
         refine(CMK.out w' hB).mono ?_
         rintro e w3 ⟨rfl,hb3⟩
         exact⟨_,rfl,hb3,rfl⟩
        simp only[Pt]
        iterate 2 (apply Free.chain_still (by first|exact Free.wanted_of rfl rfl rfl|rfl) rfl;(intro w' hB hA;have s3:=(HK.out w' (HBr.out.trans (hB.mono HBr.out.size))).2.1.s3;clear hA hB;rw[HMA.out]at s3;go_light;go_simp<;>rfl);(try simp only[Pt]))
        iterate 4 (apply Free.chain_skip (by first|exact unwanted2 rfl rfl rfl rfl|exact aJ rfl rfl rfl);simp only[Pt])
        iterate 1 (apply Free.chain_still (by first|exact Free.wanted_of rfl rfl rfl|rfl) rfl;(intro w' hB hA;have s3:=(HK.out w' (HBr.out.trans (hB.mono HBr.out.size))).2.1.s3;clear hA hB;rw[HMA.out]at s3;go_light;go_simp<;>rfl);(try simp only[Pt]))
        apply Free.chain_nil
        intro w6 hw6 _ _
        simp only[List.drop_succ_cons,List.drop_zero,List.drop_nil]
        have HF:=h_ (FIN.out w6 false (by rw[HV6.out,dB hil (by rw[EOP.out];rfl)]) (HKF.out w6 hw6).2)
        clear FIN HV6 hw6
        go_wp2_with fail
        exact HF.out
       |true=>
        cases RB with
        |true=>
         go_wp2_with fail
         refine Free.wp_region_free 15 [(7, .det (.bool true)),(13, .det (.bool true))] (fun w'=>Below wr.heap.size wr w') (by kernel_rfl) (by kernel_rfl) (Free.mono_det (fun j mk r hf=>by simp only[Free.find]at hf;repeat' (first|cases hf|split at hf))) (Below.refl _ _).drew (fun _ _ h g=>h.trans (Below.mono g h.size)) ?_
         simp only[List.take_succ_cons,List.take_zero]
         apply Free.chain_still (by first|exact Free.wanted_of rfl rfl rfl|rfl) rfl
         ·intro w' hB hA
          exact Hk.exec_mid 27 (.tmp 2) rfl W.heap.size 0 rfl cs _ (HK.out w' (HBr.out.trans (hB.mono HBr.out.size))).2.2.1 Tryz.underlying27 rfl HIC.out
         simp only[Pt]
         iterate 5 (apply Free.chain_still (by first|exact Free.wanted_of rfl rfl rfl|rfl) rfl;(intro w' hB hA;have s3:=(HK.out w' (HBr.out.trans (hB.mono HBr.out.size))).2.1.s3;clear hA hB;rw[HMA.out]at s3;go_light;go_simp<;>rfl);(try simp only[Pt]))
         apply Free.chain_still (by first|exact Free.wanted_of rfl rfl rfl|rfl) rfl
         ·intro w' hB hA
          exact Hk.exec_mid 66 (.tmp 102) rfl mb (mo+i*5) rfl es _ (HMM.out w' hB) Tryz.underlying66 rfl HIM.out
         simp only[Pt]
         apply Free.chain_det (by first|exact Free.wanted_of rfl rfl rfl|rfl) rfl
         ·intro w' hB hA
          refine Free.opRun_call (f:=53) (args:= #[.agg cs.toArray, .int .i64 (i:Int), .agg es.toArray]) (by clear hB hA;go_simp<;>rfl) ?_
          refine(CMK.out w' hB).mono ?_
          rintro e w3 ⟨rfl,hb3⟩
          exact⟨_,rfl,hb3,rfl⟩
         simp only[Pt]
         iterate 2 (apply Free.chain_still (by first|exact Free.wanted_of rfl rfl rfl|rfl) rfl;(intro w' hB hA;have s3:=(HK.out w' (HBr.out.trans (hB.mono HBr.out.size))).2.1.s3;clear hA hB;rw[HMA.out]at s3;go_light;go_simp<;>rfl);(try simp only[Pt]))
         apply Free.chain_still (by first|exact Free.wanted_of rfl rfl rfl|rfl) rfl
         ·intro w' hB hA
          exact Hk.exec_mid 27 (.tmp 2) rfl W.heap.size 0 rfl cs _ (HK.out w' (HBr.out.trans (hB.mono HBr.out.size))).2.2.1 Tryz.underlying27 rfl HIC.out
         simp only[Pt]
         apply Free.chain_still (by first|exact Free.wanted_of rfl rfl rfl|rfl) rfl
         ·intro w' hB hA
          exact Hk.exec_mid 56 (.tmp 3) rfl (W.heap.size+1) 0 rfl ds _ (HK.out w' (HBr.out.trans (hB.mono HBr.out.size))).2.2.2.1 Tryz.underlying56 rfl HIS.out
         simp only[Pt]
         iterate 1 (apply Free.chain_still (by first|exact Free.wanted_of rfl rfl rfl|rfl) rfl;(intro w' hB hA;have s3:=(HK.out w' (HBr.out.trans (hB.mono HBr.out.size))).2.1.s3;clear hA hB;rw[HMA.out]at s3;go_light;go_simp<;>rfl);(try simp only[Pt]))
         apply Free.chain_det (by first|exact Free.wanted_of rfl rfl rfl|rfl) rfl
         ·intro w' hB hA
          refine Free.opRun_call (f:=54) (args:= #[.agg cs.toArray, .agg ds.toArray, .int .i64 (i:Int)]) (by clear hB hA;go_simp<;>rfl) ?_
          refine(CRD.out w' hB).mono ?_
          rintro e w3 ⟨rfl,hb3⟩
          exact⟨_,rfl,hb3,rfl⟩
         simp only[Pt]
         iterate 1 (apply Free.chain_still (by first|exact Free.wanted_of rfl rfl rfl|rfl) rfl;(intro w' hB hA;have s3:=(HK.out w' (HBr.out.trans (hB.mono HBr.out.size))).2.1.s3;clear hA hB;rw[HMA.out]at s3;go_light;go_simp<;>rfl);(try simp only[Pt]))
         apply Free.chain_nil
         intro w6 hw6 _ _
         simp only[List.drop_succ_cons,List.drop_zero,List.drop_nil]
         have HF:=h_ (FIN.out w6 false (by rw[HV6.out,dB hil (by rw[EOP.out];rfl)]) (HKF.out w6 hw6).2)
         clear FIN HV6 hw6
         go_wp2_with fail
         exact HF.out
        |false=>
         go_wp2_with fail
         refine Free.wp_region_free 15 [(7, .det (.bool true)),(13, .det (.bool false))] (fun w'=>Below wr.heap.size wr w') (by kernel_rfl) (by kernel_rfl) (Free.mono_det (fun j mk r hf=>by simp only[Free.find]at hf;repeat' (first|cases hf|split at hf))) (Below.refl _ _).drew (fun _ _ h g=>h.trans (Below.mono g h.size)) ?_
         simp only[List.take_succ_cons,List.take_zero]
         apply Free.chain_still (by first|exact Free.wanted_of rfl rfl rfl|rfl) rfl
         ·intro w' hB hA
          exact Hk.exec_mid 27 (.tmp 2) rfl W.heap.size 0 rfl cs _ (HK.out w' (HBr.out.trans (hB.mono HBr.out.size))).2.2.1 Tryz.underlying27 rfl HIC.out
         simp only[Pt]
         iterate 5 (apply Free.chain_still (by first|exact Free.wanted_of rfl rfl rfl|rfl) rfl;(intro w' hB hA;have s3:=(HK.out w' (HBr.out.trans (hB.mono HBr.out.size))).2.1.s3;clear hA hB;rw[HMA.out]at s3;go_light;go_simp<;>rfl);(try simp only[Pt]))
         apply Free.chain_still (by first|exact Free.wanted_of rfl rfl rfl|rfl) rfl
         ·intro w' hB hA
          exact Hk.exec_mid 66 (.tmp 102) rfl mb (mo+i*5) rfl es _ (HMM.out w' hB) Tryz.underlying66 rfl HIM.out
         simp only[Pt]
         apply Free.chain_det (by first|exact Free.wanted_of rfl rfl rfl|rfl) rfl
         ·intro w' hB hA
          refine Free.opRun_call (f:=53) (args:= #[.agg cs.toArray, .int .i64 (i:Int), .agg es.toArray]) (by clear hB hA;go_simp<;>rfl) ?_
          refine(CMK.out w' hB).mono ?_
          rintro e w3 ⟨rfl,hb3⟩
          exact⟨_,rfl,hb3,rfl⟩
         simp only[Pt]
         iterate 2 (apply Free.chain_still (by first|exact Free.wanted_of rfl rfl rfl|rfl) rfl;(intro w' hB hA;have s3:=(HK.out w' (HBr.out.trans (hB.mono HBr.out.size))).2.1.s3;clear hA hB;rw[HMA.out]at s3;go_light;go_simp<;>rfl);(try simp only[Pt]))
         apply Free.chain_still (by first|exact Free.wanted_of rfl rfl rfl|rfl) rfl
         ·intro w' hB hA
          exact Hk.exec_mid 27 (.tmp 2) rfl W.heap.size 0 rfl cs _ (HK.out w' (HBr.out.trans (hB.mono HBr.out.size))).2.2.1 Tryz.underlying27 rfl HIC.out
         simp only[Pt]
         apply Free.chain_still (by first|exact Free.wanted_of rfl rfl rfl|rfl) rfl
         ·intro w' hB hA
          exact Hk.exec_mid 56 (.tmp 3) rfl (W.heap.size+1) 0 rfl ds _ (HK.out w' (HBr.out.trans (hB.mono HBr.out.size))).2.2.2.1 Tryz.underlying56 rfl HIS.out
         simp only[Pt]
         iterate 1 (apply Free.chain_still (by first|exact Free.wanted_of rfl rfl rfl|rfl) rfl;(intro w' hB hA;have s3:=(HK.out w' (HBr.out.trans (hB.mono HBr.out.size))).2.1.s3;clear hA hB;rw[HMA.out]at s3;go_light;go_simp<;>rfl);(try simp only[Pt]))
         apply Free.chain_det (by first|exact Free.wanted_of rfl rfl rfl|rfl) rfl
         ·intro w' hB hA
          refine Free.opRun_call (f:=54) (args:= #[.agg cs.toArray, .agg ds.toArray, .int .i64 (i:Int)]) (by clear hB hA;go_simp<;>rfl) ?_
          refine(CRD.out w' hB).mono ?_
          rintro e w3 ⟨rfl,hb3⟩
          exact⟨_,rfl,hb3,rfl⟩
         simp only[Pt]
         iterate 1 (apply Free.chain_still (by first|exact Free.wanted_of rfl rfl rfl|rfl) rfl;(intro w' hB hA;have s3:=(HK.out w' (HBr.out.trans (hB.mono HBr.out.size))).2.1.s3;clear hA hB;rw[HMA.out]at s3;go_light;go_simp<;>rfl);(try simp only[Pt]))
         apply Free.chain_nil
         intro w6 hw6 _ _
         simp only[List.drop_succ_cons,List.drop_zero,List.drop_nil]
         have HF:=h_ (HKF.out w6 hw6).1
         clear FIN hw6
         go_wp2_with fail
         go_roundw
         case rel=>exact⟨i+1,rfl,hil,h_ (dA hal.out (by rw[EOP.out];rfl) hil),HF.out⟩
         case measure=>simp[RowKit.intOf];omega
      ·have hii: ¬(i:Int)<(s.marks.length:Int):=by omega
       have HF:=h_ (FIN.out wr true (by rw[HV6.out, <-hil,hal.out]) (HK.out wr hbw).2.2.2.2.2.2)
       clear FIN HV6 hal hbw hi
       go_wp2_with fail
       exact HF.out
end Go.Proofs.YtekfoaenomgjgaaGreatDoor
