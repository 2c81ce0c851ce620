/- Package ratio: whether a ratio is valid. No condition. -/
import Derived.Test.YtekfoaenomgjgaaGreatDoorYF
set_option maxRecDepth 100000
set_option linter.all false
namespace Go.Cv
def ratV(num den:Int):Bool:=decide (1<=den/\den<=1000000/\ -1000000000000<=num/\num<=1000000000000)&&(Nat.gcd num.natAbs den.natAbs==1)
end Go.Cv
namespace Go.Proofs.YtekfoaenomgjgaaGreatDoor
open Go.RowKit Go.W32 Go.Blk Go.Cs Go.Lib Go.Opn Go.Mg Go.Cv

theorem ret_k{k:IntKind}{a b:Int}(h:a=b):Ending.returned (.int k a)= .returned (.int k b):=by rw[h]
theorem mag_any(n:Int)(W:World)(h0: -9223372036854775808<=n)(h1:n<=9223372036854775807):Calls Tryz.prog 186 #[.int .i64 n] W fun e w'=>e= .returned (.int .u64 (n.natAbs:Int))/\W=w':=by
 by_cases hn:n<0
 ·have e1:IntKind.u64.wrap (-(n+1))= -(n+1):=IntWalk.u64_in _ (by omega)
  have e2: -(n+1)+1=(n.natAbs:Int):=by omega
  have e3:IntKind.u64.wrap (-(n+1)+1)=(n.natAbs:Int):=by rw[e2];exact IntWalk.u64_in _ (by omega)
  have E:Hid (IntKind.u64.wrap (IntKind.u64.wrap (-(n+1))+1)=(n.natAbs:Int)):=h_ (by rw[e1,e3])
  have E2:Hid (IntKind.u64.wrap (-(n+1)+1)=(n.natAbs:Int)):=h_ e3
  clear e1 e2 e3
  go_enter Tryz.func186,Tryz.ntmps186
  go_wp2_with fail
  go_ret
  exact⟨ret_k (by first|exact E.out|exact E2.out|omega),rfl⟩
 ·have e1:IntKind.u64.wrap n=n:=IntWalk.u64_in _ (by omega)
  have E:Hid (n=(n.natAbs:Int)):=h_ (by omega)
  go_enter Tryz.func186,Tryz.ntmps186
  go_wp2_with fail
  go_ret
  exact⟨ret_k E.out,rfl⟩
def GcdR(W:World)(l:List Nat)(u v:Value)(wr:World):Prop:=∃(k g:Nat),u= .int .u64 (g:Int)/\v= .int .i64 (k:Int)/\k<=l.length/\g=(l.take k).foldl Nat.gcd 0/\g<18446744073709551616/\Below W.heap.size W wr
def GcdI(W:World)(G:Nat)(u v:Value)(wr:World):Prop:=∃(g n:Nat),u= .int .u64 (g:Int)/\v= .int .u64 (n:Int)/\Nat.gcd g n=G/\g<18446744073709551616/\n<18446744073709551616/\Below W.heap.size W wr
def encU(n:Nat):List Value:= [.int .u64 (n:Int)]
theorem fold_more{l:List Nat}{k x:Nat}(h:l[k]? =some x):(l.take (k+1)).foldl Nat.gcd 0=Nat.gcd ((l.take k).foldl Nat.gcd 0) x:=by
 rw[List.take_add_one,h,Option.toList_some,List.foldl_append];rfl
set_option maxHeartbeats 1000000 in
theorem div_any(A:Option Addr)(c:Nat)(l:List Nat)(W:World)(hl:SL W 1 encU A l)(hb:∀x∈l,x<18446744073709551616)(hn:l.length<=1000):Calls Tryz.prog 185 #[.slice A l.length c] W fun e w'=>e= .returned (.int .u64 ((l.foldl Nat.gcd 0:Nat):Int))/\Below W.heap.size W w':=by
 obtain⟨R,eR⟩:∃R:Ending->World->Prop,R=fun e w'=>e= .returned (.int .u64 ((l.foldl Nat.gcd 0:Nat):Int))/\Below W.heap.size W w':=⟨_,rfl⟩
 rw[<-eR]
 have FIN:Hid (∀w' (g:Nat),g=l.foldl Nat.gcd 0->Below W.heap.size W w'->R (.returned (.int .u64 (g:Int))) w'):=h_ fun w' g h hb=>by rw[eR,h];exact⟨rfl,hb⟩
 clear eR
 have HL:=h_ hl
 have HB:=h_ hb
 have HST:Hid (GcdR W l (.int .u64 0) (.int .i64 0) W):=h_ ⟨0,0,rfl,rfl,Nat.zero_le _,rfl,by decide,Below.refl _ _⟩
 clear hl hb
 go_enter Tryz.func185,Tryz.ntmps185
 go_wp2_with fail
 go_loopw [3,8] (fun u v wr=>GcdR W l u v wr) (fun _ v _=>(l.length:Int).toNat- (RowKit.intOf v).toNat)
 case atStart=>exact HST.out
 case round=>
  clear HST
  obtain⟨k,g,rfl,rfl,hk,hg,hgb,hbw⟩:=hrel
  rcases Nat.lt_or_eq_of_le hk with hkl|hkl
  ·have hki:(k:Int)<(l.length:Int):=by omega
   have hkb:(k:Int)<=1000:=by omega
   obtain⟨b,off,rfl⟩:=aC HL.out (by rintro rfl;simp at hkl)
   obtain⟨x,ex⟩:∃x,l[k]? =some x:=⟨_,List.getElem?_eq_getElem hkl⟩
   have hr:=az (HL.out.below hbw (Nat.le_refl _)) ex
   have cx:wr.cell? ⟨b,off+k,none⟩=some (.int .u64 (x:Int)):=by have h:=hr 0 (.int .u64 (x:Int)) rfl;rwa[Nat.mul_one,Nat.add_zero]at h
   have hxb:=HB.out x (List.mem_of_getElem? ex)
   have NEW:Hid (∀w',Below wr.heap.size wr w'->GcdR W l (.int .u64 ((Nat.gcd g x:Nat):Int)) (.int .i64 ((k:Int)+1)) w'):=h_ fun w' hb=>⟨k+1,Nat.gcd g x,rfl,rfl,hkl,by rw[fold_more ex, <-hg],by
    rcases Nat.eq_zero_or_pos g with h|h
    ·rw[h,Nat.gcd_zero_left];exact hxb
    ·exact Nat.lt_of_le_of_lt (Nat.gcd_le_left x h) hgb,hbw.trans (hb.mono hbw.size)⟩
   have HS2:Hid (GcdI wr (Nat.gcd g x) (.int .u64 (g:Int)) (.int .u64 (x:Int)) wr):=h_ ⟨g,x,rfl,rfl,rfl,hgb,hxb,Below.refl _ _⟩
   obtain⟨G,eG⟩:∃G,G=Nat.gcd g x:=⟨_,rfl⟩
   rw[<-eG]at NEW HS2
   clear eG hr ex hg hgb hbw hk hxb
   go_wp2_with fail
   generalize wr=wo at*
   go_loopw [3,5] (fun u v wi=>GcdI wo G u v wi) (fun _ v _=>(RowKit.intOf v).toNat)
   case atStart=>exact HS2.out
   case round=>
    clear HS2
    obtain⟨g2,n,rfl,rfl,hG,hg2,hn2,hbi⟩:=hrel
    by_cases hz:n=0
    ·have hz0:((n:Int)==0)=true:=by simp[hz]
     have hzn:((n:Int) !=0)=false:=by simp[hz]
     have hGg:G=g2:=by rw[<-hG,hz,Nat.gcd_zero_right]
     have HN:=h_ (NEW.out wr hbi)
     rw[hGg]at HN
     clear hz hG hbi hGg NEW
     go_wp2_with fail
     go_roundw
     case rel=>exact HN.out
     case measure=>simp[RowKit.intOf];omega
    ·have hz0:((n:Int)==0)=false:=by simp[hz]
     have hzn:((n:Int) !=0)=true:=by simp[hz]
     have hzi: ¬(n:Int)=0:=by omega
     have t2:(g2:Int).tmod (n:Int)=((g2 % n:Nat):Int):=by rw[Int.tmod_eq_emod_of_nonneg (by omega)];omega
     have t4:IntKind.u64.wrap (((g2 % n:Nat):Int))=((g2 % n:Nat):Int):=IntWalk.u64_in _ (by have:=Nat.mod_lt g2 (Nat.pos_of_ne_zero hz);omega)
     have hlt:=Nat.mod_lt g2 (Nat.pos_of_ne_zero hz)
     have NXT:Hid (∀w',Below wr.heap.size wr w'->GcdI wo G (.int .u64 (n:Int)) (.int .u64 ((g2 % n:Nat):Int)) w'):=h_ fun w' hb=>⟨n,g2 % n,rfl,rfl,by rw[<-hG,Nat.gcd_comm g2 n,Nat.gcd_rec n g2,Nat.gcd_comm],hn2,by omega,hbi.trans (hb.mono hbi.size)⟩
     obtain⟨q,eq⟩:∃q,q=g2 % n:=⟨_,rfl⟩
     rw[<-eq]at t2 t4 NXT hlt
     have HLT:=h_ hlt
     clear eq hG hbi hg2 hlt
     go_wp2_with fail
     refine Free.wp_region_free 6 [] (fun w'=>Below wr.heap.size wr w') (by kernel_rfl) (by kernel_rfl) (Free.mono_det (fun j mk r hf=>by simp only[Free.find]at hf;repeat' (first|cases hf|split at hf))) (Below.refl _ _).drew (fun _ _ h g=>h.trans (Below.mono g h.size)) ?_
     simp only[List.take_succ_cons,List.take_zero]
     iterate 6 (apply Free.chain_still (by first|exact Free.wanted_of rfl rfl rfl|rfl) rfl;(intro w' hB hA;obtain qB:=hB;clear hA;go_light;go_simp<;>rfl);(try simp only[Pt]))
     apply Free.chain_nil
     intro w6 hw6 _ _
     have HN:=h_ (NXT.out w6 hw6)
     simp only[List.drop_succ_cons,List.drop_zero]
     clear hw6 NXT NEW
     go_wp2_with fail
     go_roundw
     case rel=>exact HN.out
     case measure=>have:=HLT.out;simp[RowKit.intOf];omega
  ·have hki: ¬(k:Int)<(l.length:Int):=by omega
   have HF:=h_ (FIN.out wr g (by rw[hg,List.take_of_length_le (by omega)]) hbw)
   clear hg hbw hk hkl
   go_wp2_with fail
   exact HF.out
theorem lit_u(W:World)(l:List Nat):SL (W.alloc (.cells (l.flatMap encU).toArray 184)) 1 encU (some ⟨W.heap.size,0,none⟩) l:=
 Apl.sl_of_cells (fun _=>rfl) (show Row _ _ _ _ from Row.new _ _ _) (fun j u hj=>by simpa using hj)
theorem monoU{x y:Value}{a b:Nat}{K:List (Nat×Free.Loud)}(hK:K= [(2, .det x),(5, .det y),(6, .ind (fun b=> .slice (some ⟨b,0,none⟩) 2 2) (fun g w=>SL w 1 encU (some ⟨g,0,none⟩) [a,b]))]):Free.LoudMono K:=by
 subst hK
 intro j mk r hf c w w' hr hg
 simp only[Free.find]at hf
 repeat' split at hf
 all_goals first|(cases hf;done)|skip
 injection hf with hf
 injection hf with e1 e2
 subst e2
 exact SL.below hr hg (Nat.le_refl _)
theorem buildU{a:Act}{o:Oper}{x y:Nat}{w:World}(h:(execOp a.eval o).run Tryz.prog w= .ok (.value (.slice (some ⟨w.heap.size,0,none⟩) 2 2)) (w.alloc (.cells ([x,y].flatMap encU).toArray 184))):
  Free.opRun Tryz.prog o a.eval w fun u w2=>Free.Grow w w2/\∃b,u= .slice (some ⟨b,0,none⟩) 2 2/\SL w2 1 encU (some ⟨b,0,none⟩) [x,y]:=
 Free.opRun_of h ⟨Free.Grow.alloc _ _,w.heap.size,rfl,lit_u w [x,y]⟩
theorem mag_below(n:Int)(W:World)(h0: -9223372036854775808<=n)(h1:n<=9223372036854775807):Calls Tryz.prog 186 #[.int .i64 n] W fun e w'=>e= .returned (.int .u64 (n.natAbs:Int))/\Below W.heap.size W w':=
 (mag_any n W h0 h1).mono fun _ _ ⟨h1,h2⟩=>⟨h1,by subst h2;exact Below.refl _ _⟩
set_option maxHeartbeats 1000000 in
theorem rat_any(num den:Int)(W:World):Calls Tryz.prog 162 #[.agg #[.int .i64 num, .int .i64 den]] W fun e w'=>e= .returned (.bool (ratV num den))/\Below W.heap.size W w':=by
 obtain⟨R,eR⟩:∃R:Ending->World->Prop,R=fun e w'=>e= .returned (.bool (ratV num den))/\Below W.heap.size W w':=⟨_,rfl⟩
 rw[<-eR]
 have FIN:Hid (∀w' v,v=ratV num den->Below W.heap.size W w'->R (.returned (.bool v)) w'):=h_ fun w' v h hb=>by rw[eR,h];exact⟨rfl,hb⟩
 clear eR
 obtain⟨W1,e1⟩:∃W1,W1=W.alloc (.cells #[.int .i64 num, .int .i64 den] 43):=⟨_,rfl⟩
 have hr1:Row W1 W.heap.size 43 [.int .i64 num, .int .i64 den]:=by rw[e1];exact Row.new _ _ _
 have hb1:Below W.heap.size W W1:=by rw[e1];exact(Below.refl _ _).alloc (Nat.le_refl _) _
 have c0:W1.cell? ⟨W.heap.size,0,none⟩=some (.int .i64 num):=hr1.at rfl
 have c1:W1.cell? ⟨W.heap.size,1,none⟩=some (.int .i64 den):=hr1.at rfl
 have HC:Hid (∀w',Below W1.heap.size W1 w'->w'.cell? ⟨W.heap.size,0,none⟩=some (.int .i64 num)/\w'.cell? ⟨W.heap.size,1,none⟩=some (.int .i64 den)):=h_ fun w' hb=>⟨(hr1.below hb hr1.lt).at rfl,(hr1.below hb hr1.lt).at rfl⟩
 have E1:Hid (W.alloc (.cells #[.int .i64 num, .int .i64 den] 43)=W1):=h_ e1.symm
 have HB1:=h_ hb1
 clear e1 hr1 hb1
 by_cases b1:1<=den
 rotate_left
 ·have HF:=h_ (FIN.out W1 false (by unfold ratV;rw[decide_eq_false (by omega)];rfl) HB1.out)
  clear FIN
  go_enter Tryz.func162,Tryz.ntmps162
  go_wp2_with (simp only[E1.out])
  exact HF.out
 by_cases b2:den<=1000000
 rotate_left
 ·have HF:=h_ (FIN.out W1 false (by unfold ratV;rw[decide_eq_false (by omega)];rfl) HB1.out)
  clear FIN
  go_enter Tryz.func162,Tryz.ntmps162
  go_wp2_with (simp only[E1.out])
  exact HF.out
 by_cases b3: -1000000000000<=num
 rotate_left
 ·have HF:=h_ (FIN.out W1 false (by unfold ratV;rw[decide_eq_false (by omega)];rfl) HB1.out)
  clear FIN
  go_enter Tryz.func162,Tryz.ntmps162
  go_wp2_with (simp only[E1.out])
  exact HF.out
 by_cases b4:num<=1000000000000
 rotate_left
 ·have HF:=h_ (FIN.out W1 false (by unfold ratV;rw[decide_eq_false (by omega)];rfl) HB1.out)
  clear FIN
  go_enter Tryz.func162,Tryz.ntmps162
  go_wp2_with (simp only[E1.out])
  exact HF.out
 have HV:Hid (ratV num den=(Nat.gcd num.natAbs den.natAbs==1)):=h_ (by unfold ratV;rw[decide_eq_true ⟨b1,b2,b3,b4⟩];rfl)
 have CM1:=h_ (fun w=>mag_below num w (by omega) (by omega))
 have CM2:=h_ (fun w=>mag_below den w (by omega) (by omega))
 have hx:num.natAbs<18446744073709551616:=by omega
 have hy:den.natAbs<18446744073709551616:=by omega
 obtain⟨x,exx⟩:∃x,x=num.natAbs:=⟨_,rfl⟩
 obtain⟨y,eyy⟩:∃y,y=den.natAbs:=⟨_,rfl⟩
 rw[<-exx]at CM1 HV hx
 rw[<-eyy]at CM2 HV hy
 have HXY:=h_ (And.intro hx hy)
 clear exx eyy c0 c1 hx hy
 have c0:=(HC.out W1 (Below.refl _ _)).1
 have c1:=(HC.out W1 (Below.refl _ _)).2
 go_enter Tryz.func162,Tryz.ntmps162
 go_wp2_with (simp only[E1.out])
 refine Free.wp_region_free 7 [(2, .det (.int .u64 (x:Int))),(5, .det (.int .u64 (y:Int))),(6, .ind (fun b=> .slice (some ⟨b,0,none⟩) 2 2) (fun g w=>SL w 1 encU (some ⟨g,0,none⟩) [x,y]))] (fun w'=>Below W1.heap.size W1 w') (by kernel_rfl) (by kernel_rfl) (monoU rfl) (Below.refl _ _).drew (fun _ _ h g=>h.trans (Below.mono g h.size)) ?_
 simp only[List.take_succ_cons,List.take_zero]
 iterate 7 (first|(apply Free.chain_det (by first|exact Free.wanted_of rfl rfl rfl|rfl) rfl;(intro w' hB hA;refine Free.opRun_call (f:=186) (args:= #[.int .i64 num]) (by clear hB hA;go_simp<;>rfl) ?_;refine(CM1.out _).mono ?_;rintro e w3 ⟨rfl,hb3⟩;exact⟨_,rfl,hb3,rfl⟩);simp only[Pt])|(apply Free.chain_det (by first|exact Free.wanted_of rfl rfl rfl|rfl) rfl;(intro w' hB hA;refine Free.opRun_call (f:=186) (args:= #[.int .i64 den]) (by clear hB hA;go_simp<;>rfl) ?_;refine(CM2.out _).mono ?_;rintro e w3 ⟨rfl,hb3⟩;exact⟨_,rfl,hb3,rfl⟩);simp only[Pt])|(apply Free.chain_still rfl rfl;(intro w' hB hA;cases HC.out w' hB;clear hA;go_light;go_simp<;>rfl);(try simp only[Pt]))|(apply Free.chain_ind rfl rfl;(intro w' hB hA;refine buildU ?_;clear hB hA;go_light;go_simp<;>rfl)))
 intro b6
 simp only[Pt]
 apply Free.chain_nil
 intro w5 hw5 _ hh
 have hs6:=hh _ List.mem_cons_self
 dsimp only at hs6
 have CD:=h_ (div_any (some ⟨b6,0,none⟩) 2 [x,y] w5 hs6 (by intro z hz;have:=HXY.out;simp at hz;omega) (by simp))
 rw[show [x,y].length=2 from rfl,show [x,y].foldl Nat.gcd 0=Nat.gcd x y from by simp]at CD
 have HB5:=h_ (HB1.out.trans (hw5.mono HB1.out.size))
 simp only[List.drop_succ_cons,List.drop_zero]
 clear hs6 hw5 hh HC c0 c1 CM1 CM2
 obtain⟨g,eg⟩:∃g,g=Nat.gcd x y:=⟨_,rfl⟩
 rw[<-eg]at CD HV
 clear eg
 go_wp2_with fail
 refine CD.out.mono ?_
 rintro e w7 ⟨rfl,hb7⟩
 have HF:=h_ (FIN.out w7 ((g:Int)==1) (by rw[HV.out,Bool.eq_iff_iff];simp;omega) (HB5.out.trans (hb7.mono HB5.out.size)))
 clear hb7 CD HV FIN
 go_wp2_with fail
 exact HF.out
end Go.Proofs.YtekfoaenomgjgaaGreatDoor
