/- Package file: Parse. Condition: the library's variables hold what their types say. -/
import Derived.Test.YtkmbmfengcdmoaaGreatDoorZBA
import Derived.Maps.AppendAt
import Derived.RangeFuncBox
set_option maxRecDepth 100000
set_option linter.all false
namespace Go.Proofs.YtkmbmfengcdmoaaGreatDoor
open Go.RowKit Go.ay Go.Shelf Go.Pa Go.Rf
attribute [local go_sem] Oper.semAt_some

theorem rD(l:List UInt8)(v:Int)(w:World)(hl:l.length<4294967281)(h:Lib.atoiAll l= .ok v):
  Calls Tryz.prog 110 #[.string ⟨l.toArray⟩] w λe w'=>e= .returned (.tuple #[.int .i64 v, .nilIface])/\Below w.heap.size w w':=by
 refine(Tryz.strconv_Atoi_ok ⟨l.toArray⟩ (by show l.toArray.size<=_;simp;omega) v h w).mono ?_;rintro e w' ⟨rfl,rfl|⟨t,rfl⟩⟩
 ·exact⟨rfl,Below.refl _ _⟩
 ·exact⟨rfl,Lib.bytesWorld_below _ _ _⟩
def KP(w:World)(e:Ending)(w':World):Prop:=Below w.heap.size w w'/\∃v T N,e= .returned (.tuple #[.int .i64 v, .iface T (.pointer (some ⟨N,0,none⟩))])
theorem xU(l:List UInt8)(w:World)(hl:l.length<4294967281)(h:∀v,Lib.atoiAll l≠ .ok v)(hE:gK w):
  Calls Tryz.prog 110 #[.string ⟨l.toArray⟩] w (KP w):=by
 cases hr:Lib.atoiAll l
 ·exact absurd hr (h _)
 ·obtain⟨ev,hv,he⟩:=hE.s;refine(Tryz.strconv_Atoi_syntax ⟨l.toArray⟩ (by show l.toArray.size<=_;simp;omega) hr ev w hv he).mono ?_;rintro e w' ⟨N,rfl,_,_,hb⟩;exact⟨hb,_,_,_,rfl⟩
 ·obtain⟨ev,hv,he⟩:=hE.r;refine(Tryz.strconv_Atoi_range ⟨l.toArray⟩ (by show l.toArray.size<=_;simp;omega) hr ev w hv he).mono ?_;rintro e w' ⟨N,rfl,_,_,hb⟩;exact⟨hb,_,_,_,rfl⟩
theorem uL{β:Type}(k:Nat)(c:Array Value)(t:TypeId)(f:Nat×Nat):Own (fun(_:β) W=>W.heap[k]? =some (.cells c t f)):=by
 intro s X Y row h hg hr;refine(hg.block k (iS.1 h).1 (λe=> ?_)).trans h;obtain⟨o,ho,hc⟩:=hr k e.symm;rw[h]at ho;cases ho;cases hc
theorem QQ:(Tryz.prog.info? 3).map (λi=>(i.zero,i.size,i.bytes))=some (some (.int .i64 0),1,8):=by kernel_rfl

theorem fG{w:World}{B e s n:Nat}{v:Value}{xs:List Value}(h:w.ownsRow B e s v n xs):∃A c,v= .slice A n c:=by
 obtain⟨_,⟨h1,h2⟩|⟨g,cap,cur,h1,_⟩⟩:=h
 ·exact⟨none,0,by rw[h1,h2]⟩
 ·exact⟨_,_,h1⟩
def xm(pre:List Pc):Option (Bool×List Int):=oZ (nb pre)
def QH(pre:List Pc):Bool:=((xm pre).getD (true,[])).1
def Me(pre:List Pc):List Int:=((xm pre).getD (true,[])).2
abbrev bK:Array Value:= #[.int .i64 0, .int .i64 0, .int .i64 0, .int .i64 0, .int .i64 0, .bool false]
theorem qO:(Tryz.prog.info? 29).map (·.size)=some bK.size:=by kernel_rfl
theorem Ft:bK.all (·.oneCell')=true:=by kernel_rfl
theorem cC{w:World}{g:Nat}{cs:Array Value}{a:Addr}(h:a.block≠g):(w.setRow g cs).heap[a.block]? =w.heap[a.block]? :=by unfold World.setRow;simp only[vS];rw[if_neg (λe=>h e.symm)]
def PI(w:World)(pre:List Pc)(W:World):Prop:=
 ((∃v,Boxed W (w.heap.size+1+1) 22 v/\W.ownsRow w.heap.size 3 1 v (Me pre).length ((Me pre).map (Value.int .i64))/\True)/\
 Boxed W (w.heap.size+1+1+1) 4 (.bool (QH pre))/\Boxed W (w.heap.size+1) 52 (.int .i64 0)/\W.heap[w.heap.size]? =some (.cells bK 29 (0,0)))/\(Below w.heap.size w W/\(xm pre).isSome=true)
def PX(w:World)(c:Code)(pre:List Pc)(W:World):Prop:=
 (Boxed W (w.heap.size+1) 52 (.int .i64 6)/\W.heap[w.heap.size]? =some (.cells bK 29 (0,0)))/\(Below w.heap.size w W/\(c= .ret/\xm pre=none))
theorem pJ(w:World)(B:Nat)(hB:w.heap.size<=B):OwnFrom B (PI w):=
 OwnFrom.and (OwnFrom.and (Own.from (holdsRow_own w.heap.size (w.heap.size+1+1) 22 3 1 (λpre=>(Me pre).length) (λpre=>(Me pre).map (Value.int .i64)) (λ_ _=>True)) _)
  (OwnFrom.and (Own.from (boxed_own _ _ _) _) (OwnFrom.and (Own.from (boxed_own _ _ _) _) (Own.from (uL _ _ _ _) _)))) (OwnFrom.and (ownFrom_below (aL _) hB) (ownFrom_pure _ _))
theorem N8(w:World)(B:Nat)(hB:w.heap.size<=B)(c:Code):OwnFrom B (PX w c):=
 OwnFrom.and (OwnFrom.and (Own.from (boxed_own _ _ _) _) (Own.from (uL _ _ _ _) _)) (OwnFrom.and (ownFrom_below (aL _) hB) (ownFrom_pure _ _))
theorem ke{B g:Nat}{w:World}{cs:Array Value}(h:B<=g):Below B w (w.setRow g cs):=
 ⟨rfl,rfl,rfl,by simp[World.setRow],λk hk=>cC (a:=⟨k,0,none⟩) (by show k≠g;omega)⟩
theorem mM{g:Nat}{w:World}{cs:Array Value}:KeepsOthers w (w.setRow g cs):=by
 refine⟨by simp[World.setRow],λk o hk ho=> ?_⟩;unfold World.setRow;simp only[vS];split
 ·rw[hk];cases o<;>first|rfl|cases ho
 ·exact hk
theorem wW{w W w2:World}{pre:List Pc}(B:Nat)(hK:KeepsOthers W w2)(hz:w2.heap[w.heap.size]? =some (.cells bK 29 (0,0)))(he:Boxed w2 (w.heap.size+1) 52 (.int .i64 0))(hB:Below w.heap.size w w2)(hs:xm pre=none):
  KeepsFrom B W ((w2.setRow w.heap.size bK).setCell ⟨w.heap.size+1,0,none⟩ (.int .i64 6))/\PX w .ret pre ((w2.setRow w.heap.size bK).setCell ⟨w.heap.size+1,0,none⟩ (.int .i64 6)):=by
 have he2:Boxed (w2.setRow w.heap.size bK) (w.heap.size+1) 52 (.int .i64 0):=(cC (a:=⟨w.heap.size+1,0,none⟩) (by simp)).trans he;refine⟨((hK.trans mM).trans (KeepsOthers.setCell _ _ _)).from _,⟨he2.set _, ?_⟩, ?_,rfl,hs⟩
 ·rw[Below.heap_setCell _ ⟨w.heap.size+1,0,none⟩ _ w.heap.size (by show w.heap.size≠w.heap.size+1;omega)];exact setRow_heap _ _ _ _ _ _ hz
 ·exact(hB.trans (ke (aL _))).setCell (p:=⟨w.heap.size+1,0,none⟩) (by show _<=w.heap.size+1;omega) _
theorem IC{pre:List Pc}{f:Bool}{ns:List Int}(h:xm pre=some (f,ns)):QH pre=f/\Me pre=ns:=by unfold QH Me;rw[h];exact⟨rfl,rfl⟩
theorem JE{w W:World}{pre pre':List Pc}(B:Nat)(h:PI w pre W)(hn:Me pre= [])(hs:xm pre'=some (false,[])):
  KeepsFrom B W (W.setCell ⟨w.heap.size+1+1+1,0,none⟩ (.bool false))/\Below w.heap.size W (W.setCell ⟨w.heap.size+1+1+1,0,none⟩ (.bool false))/\PI w pre' (W.setCell ⟨w.heap.size+1+1+1,0,none⟩ (.bool false)):=by
 obtain⟨⟨⟨v,hv,hrow,_⟩,hf,he,hz⟩,hB,_⟩:=h;obtain⟨e1,e2⟩:=IC hs;have hb:Below w.heap.size W (W.setCell ⟨w.heap.size+1+1+1,0,none⟩ (.bool false)):=(Below.refl _ _).setCell (p:=⟨w.heap.size+1+1+1,0,none⟩) (by show _<=w.heap.size+1+1+1;omega) _;refine⟨(KeepsOthers.setCell _ _ _).from _,hb,⟨⟨v,hv.other (by omega) _, ?_,trivial⟩, ?_,he.other (by omega) _, ?_⟩,hB.trans hb,by rw[hs];rfl⟩
 ·rw[e2, <-hn];exact hrow.kept (grownBy_setCell' W (w.heap.size+1+1+1) (.bool false)) (.inr (hf.not_row (by decide) hrow).symm)
 ·rw[e1];exact hf.set _
 ·rw[Below.heap_setCell _ ⟨w.heap.size+1+1+1,0,none⟩ _ w.heap.size (by show w.heap.size≠w.heap.size+1+1+1;omega)];exact hz
theorem FJ{w W w2 w1:World}{pre':List Pc}{ns:List Int}{u:Int}{A2:Option Addr}{c2 g' cap':Nat}{tmp:Obj}(B:Nat)(hK:KeepsOthers W w2)(hW:Below w.heap.size W w2)(hB:Below w.heap.size w w2)
  (hv:Boxed w2 (w.heap.size+1+1) 22 (.slice A2 ns.length c2)) (hrow:w2.ownsRow w.heap.size 3 1 (.slice A2 ns.length c2) ns.length (ns.map (Value.int .i64)))
  (hf:Boxed w2 (w.heap.size+1+1+1) 4 (.bool false)) (he:Boxed w2 (w.heap.size+1) 52 (.int .i64 0)) (hz:w2.heap[w.heap.size]? =some (.cells bK 29 (0,0)))
  (hown':w1.ownsRow w.heap.size 3 1 (.slice (some ⟨g',0,none⟩) (ns.length+1) cap') (ns.length+1) (ns.map (Value.int .i64)++ [.int .i64 u])) (hgrow:(w2.alloc tmp).grownBy w1 (Value.slice A2 ns.length c2).ownBlock) (hs:xm pre'=some (false,ns++ [u])):
  KeepsFrom B W (w1.setCell ⟨w.heap.size+1+1,0,none⟩ (.slice (some ⟨g',0,none⟩) (ns.length+1) cap'))/\Below w.heap.size W (w1.setCell ⟨w.heap.size+1+1,0,none⟩ (.slice (some ⟨g',0,none⟩) (ns.length+1) cap'))/\PI w pre' (w1.setCell ⟨w.heap.size+1+1,0,none⟩ (.slice (some ⟨g',0,none⟩) (ns.length+1) cap')):=by
 obtain⟨hv1,hv2,hr2,hk2,hb2⟩:=hv.appended (by decide) hrow hB.size (by omega) hown' hgrow;obtain⟨e1,e2⟩:=IC hs;have hz1:w1.heap[w.heap.size]? =some (.cells bK 29 (0,0)):=by
  refine(hgrow.block _ (by have:=(iS.1 hz).1;simp;omega) ?_).trans (bZ hz);obtain⟨_,⟨h1,_⟩|⟨g,cap,cur,h1,_,h3,_⟩⟩:=hrow
  ·rw[h1];simp[Value.ownBlock]
  ·rw[h1];intro e;simp[Value.ownBlock]at e;rw[<-e,hz]at h3;cases h3
 refine⟨(hK.trans hk2).from _,hW.trans hb2,⟨⟨_,hv2, ?_,trivial⟩, ?_, ?_, ?_⟩,hB.trans hb2,by rw[hs];rfl⟩
 ·rw[e2];simpa using hr2
 ·rw[e1];exact((hf.alloc tmp).kept hgrow (hf.not_row (by decide) hrow)).other (by omega) _
 ·exact((he.alloc tmp).kept hgrow (he.not_row (by decide) hrow)).other (by omega) _
 ·rw[Below.heap_setCell _ ⟨w.heap.size+1+1,0,none⟩ _ w.heap.size (by show w.heap.size≠w.heap.size+1+1;omega)];exact hz1
theorem kK{R:Ending->World->Prop}{W:World}{D b:Nat}{c0 c1 c2 c3 c4 c5:Value}{k:Int}(n:Nat)(tmps:Array Value)(h2:tmps[2]?.getD undef= .pointer (some ⟨b,0,none⟩))(h3:tmps[3]?.getD undef= .pointer (some ⟨b+1,0,none⟩))
  (hz:W.heap[b]? =some (.cells #[c0,c1,c2,c3,c4,c5] 29 (0,0))) (he:Boxed W (b+1) 52 (.int .i64 k)) (hK:W.heap[D]? =some (.deferred (some [])))
  (hR:R (.returned (.tuple #[.agg #[c0,c1,c2,c3,c4,c5], .int .i64 k])) (W.putObj D (.deferred none))):bodyPostM Fence.wide n Tryz.prog Tryz.f81 R .ret {tmps,defers:= [{target:= .collected D,args:= #[]}]} W:=by
 refine⟨by simp, .inl ⟨_,_,rfl,run_takeDeferred hK, ?_⟩⟩;have hz2:(W.putObj D (.deferred none)).heap[b]? =some (.cells #[c0,c1,c2,c3,c4,c5] 29 (0,0)):=by rw[World.putObj_heap_other (λe=>by subst e;rw[hz]at hK;cases hK)];exact hz
 have he2:(W.putObj D (.deferred none)).cell? ⟨b+1,0,none⟩=some (.int .i64 k):=by rw[World.cell?_of_block (World.putObj_heap_other (λe=>by subst e;rw[show W.heap[b+1]? =_ from he]at hK;cases hK))];exact he.cell
 have p0:(W.putObj D (.deferred none)).cell? ⟨b,0,none⟩=some c0:=by simp[World.cell?,hz2]
 have p1:(W.putObj D (.deferred none)).cell? ⟨b,1,none⟩=some c1:=by simp[World.cell?,hz2]
 have p2:(W.putObj D (.deferred none)).cell? ⟨b,2,none⟩=some c2:=by simp[World.cell?,hz2]
 have p3:(W.putObj D (.deferred none)).cell? ⟨b,3,none⟩=some c3:=by simp[World.cell?,hz2]
 have p4:(W.putObj D (.deferred none)).cell? ⟨b,4,none⟩=some c4:=by simp[World.cell?,hz2]
 have p5:(W.putObj D (.deferred none)).cell? ⟨b,5,none⟩=some c5:=by simp[World.cell?,hz2]
 refine⟨.tuple #[.agg #[c0,c1,c2,c3,c4,c5], .int .i64 k], ?_,hR⟩;clear hz2 hR hz he hK;simp[results,Tryz.results81,go_sem,h2,h3,p0,p1,p2,p3,p4,p5,he2]
def pK(t:ByteArray)(w:World)(e:Ending)(w':World):Prop:=Below w.heap.size w w'/\
 ((∃x:ei,x.Ok/\iT x=t/\e= .returned (.tuple #[.agg (bU x).toArray, .int .i64 0]))\/((∀x:ei,x.Ok->iT x≠t)/\e= .returned (.tuple #[.agg bK, .int .i64 6])))
set_option maxHeartbeats 4000000 in
theorem FD(t:List UInt8)(w:World)(ht:t.length<4294967281)(hT:cB w)(hE:gK w):
  Calls Tryz.prog 81 #[.string ⟨t.toArray⟩] w (pK ⟨t.toArray⟩ w):=by
 have HT:=h_ hT;have HE:=h_ hE;clear hT hE;obtain⟨R,eR⟩:=x_ (pK ⟨t.toArray⟩ w)
 rw[<-eR];have ER:=h_ eR;clear eR;refine jB 4 Tryz.func81 rfl ?_;simp only[Tryz.ntmps81,tY,kq,qA,Nat.reduceAdd,Nat.reduceSub,M0,MZ,M7,M6,xK,xC];go_wp2_with fail;refine(AK _ _).mono ?_;rintro e w' ⟨rfl,rfl⟩;go_wp2_with fail;have hsz:(((((w.alloc (.cells bK 29)).alloc (.cells #[.int .i64 0] 52)).alloc (.cells #[.slice none 0 0] 22)).alloc (.cells #[.bool true] 4)).alloc (.cells #[.string ⟨t.toArray⟩] 9)).heap.size=w.heap.size+5:=by simp
 have HB0:Hid (Below w.heap.size w (((((w.alloc (.cells bK 29)).alloc (.cells #[.int .i64 0] 52)).alloc (.cells #[.slice none 0 0] 22)).alloc (.cells #[.bool true] 4)).alloc (.cells #[.string ⟨t.toArray⟩] 9))):=
  (((((Below.refl _ w).alloc (aL _) _).alloc (by simp) _).alloc (by simp;omega) _).alloc (by simp;omega) _).alloc (by simp;omega) _
 have HI0:Hid (PI w [] (((((w.alloc (.cells bK 29)).alloc (.cells #[.int .i64 0] 52)).alloc (.cells #[.slice none 0 0] 22)).alloc (.cells #[.bool true] 4)).alloc (.cells #[.string ⟨t.toArray⟩] 9))):=by
  refine⟨⟨⟨.slice none 0 0, ?_,World.ownsRow_nil _ _ _ _,trivial⟩, ?_, ?_, ?_⟩,HB0.out,rfl⟩
  ·exact bZ (bZ (eY (by simp)))
  ·exact bZ (eY (by simp))
  ·exact bZ (bZ (bZ (eY (by simp))))
  ·exact bZ (bZ (bZ (bZ (eY rfl))))
 obtain⟨W0,eW0⟩:=x_ ((((((w.alloc (.cells bK 29)).alloc (.cells #[.int .i64 0] 52)).alloc (.cells #[.slice none 0 0] 22)).alloc (.cells #[.bool true] 4)).alloc (.cells #[.string ⟨t.toArray⟩] 9)))
 have AN:W0.cell? ⟨w.heap.size+1+1+1+1,0,none⟩=some (.string ⟨t.toArray⟩):=by rw[eW0];exact Boxed.cell (t:=9) (eY (by simp))
 rw[<-eW0]at hsz HB0 HI0⊢;clear eW0;have HSZ:=h_ hsz;have hsz':w.heap.size<=W0.heap.size:=by omega
 refine Kv (α:=Pc) (encs:=Ly) (n0:=w.heap.size) 4 (by decide) rfl (enters_of Tryz.func187 (by kernel_rfl) rfl) (by omega) (zQ 3 (by decide) _ _ t ht W0 (by omega) HE.out.lt AN (HE.out.below HB0.out (aL _))) (λ_=>rfl)
  (PI w) (PX w) (pJ w _ (by omega)) (N8 w _ (by omega)) HI0.out ?a1 ?assign ?body ?done ?stop
 case assign=>
  intro l x W K hK
  gi_wp2
  exact hK
 case body=>
  clear HI0 AN hsz;go_light;rintro l pre ⟨p,hp⟩ W hPI hlt;have HPI:=h_ hPI;obtain⟨⟨⟨v,hv,hrow,_⟩,hf,he,hz⟩,hB,hs⟩:=hPI;obtain⟨f,ns,est⟩:∃f ns,xm pre=some (f,ns):=by
   cases h:xm pre with
   |none=>rw[h]at hs;cases hs
   |some q=>exact⟨q.1,q.2,rfl⟩
  have EFS:Hid (QH pre=f):=by show _=_;unfold QH;rw[est];rfl
  have ENS:Hid (Me pre=ns):=by show _=_;unfold Me;rw[est];rfl
  have FA:=h_ (tF est);have EST:Hid (xm (pre++ [⟨p,hp⟩])=iX (some (f,ns)) p):=by show oZ (nb (pre++ [⟨p,hp⟩]))=_;rw[mS,vD];show iX (xm pre) p=_;rw[est]
  rw[EFS.out]at hf;have hfc:=hf.cell;have hff:=hf.frozen;clear hv hrow he hz hB hs est;cases f with
  |true=>
   by_cases hw:p= [102,97,99,116]
   ·have EST2:Hid (xm (pre++ [⟨p,hp⟩])=some (false,[])):=by rw[EST.out,hw];rfl
    have hq:(p== [102,97,99,116])=true:=by rw[hw];rfl
    clear hw EST
    gi_wp2
    exact JE _ HPI.out (by rw[ENS.out];exact FA.out.1 trivial) EST2.out
   ·have EST2:Hid (xm (pre++ [⟨p,hp⟩])=none):=by rw[EST.out];show(if _ then _ else _)=_;rw[if_neg hw]
    have hq:(p== [102,97,99,116])=false:=by simpa using hw
    clear hw EST;cases hat:Lib.atoiAll p with
    |ok u=>
     have HAT:=h_ hat;clear hat
     gi_wp2
     refine⟨trivial,Free.dz ?_⟩;refine(rD p u _ hp HAT.out).mono ?_;rintro e2 w2 ⟨rfl,hb2⟩;have HP2:=h_ (jg (pJ w _ (aL _)) HPI.out hb2);have HK2:=h_ (gC hb2);clear hb2 HPI hf hfc hff;obtain⟨⟨⟨v2,hv,hrow,_⟩,hf,he,hz⟩,hB,hs⟩:=HP2.out;rw[EFS.out]at hf;rw[ENS.out]at hrow;have hfc:=hf.cell;have hff:=hf.frozen;have hvc:=hv.cell;obtain⟨A2,c2,rfl⟩:=fG hrow;have HZ:=h_ hz;have HE2:=h_ he;have HB2:=h_ hB;have hec:(w2.setRow w.heap.size bK).cell? ⟨w.heap.size+1,0,none⟩=some (.int .i64 0):=by rw[World.cell?_of_block (cC (by simp))];exact he.cell
     have hef:(w2.setRow w.heap.size bK).frozen? ⟨w.heap.size+1,0,none⟩=false:=by rw[World.frozen?_of_block (cC (by simp))];exact he.frozen
     clear hz he hB hs
     gi_wp2_with (with_reducible refine Free.fM rfl 29 (.tmp 2) (.tmp 33) rfl w.heap.size bK rfl rfl 29 bK HZ.out qO rfl Ft ?_)
     exact wW _ HK2.out HZ.out HE2.out HB2.out EST2.out
    |_=>
     have HAT:=h_ hat;clear hat
     gi_wp2
     refine⟨trivial,Free.dz ?_⟩;refine(xU p _ hp (λv hv=>by rw[HAT.out]at hv;cases hv) (HE.out.below HPI.out.2.1 (aL _))).mono ?_;rintro e2 w2 ⟨hb2,u,T,Nn,rfl⟩;have HP2:=h_ (jg (pJ w _ (aL _)) HPI.out hb2);have HK2:=h_ (gC hb2);clear hb2 HPI hf hfc hff;obtain⟨⟨⟨v2,hv,hrow,_⟩,hf,he,hz⟩,hB,hs⟩:=HP2.out;rw[EFS.out]at hf;rw[ENS.out]at hrow;have hfc:=hf.cell;have hff:=hf.frozen;have hvc:=hv.cell;obtain⟨A2,c2,rfl⟩:=fG hrow;have HZ:=h_ hz;have HE2:=h_ he;have HB2:=h_ hB;have hec:(w2.setRow w.heap.size bK).cell? ⟨w.heap.size+1,0,none⟩=some (.int .i64 0):=by rw[World.cell?_of_block (cC (by simp))];exact he.cell
     have hef:(w2.setRow w.heap.size bK).frozen? ⟨w.heap.size+1,0,none⟩=false:=by rw[World.frozen?_of_block (cC (by simp))];exact he.frozen
     clear hz he hB hs
     gi_wp2_with (with_reducible refine Free.fM rfl 29 (.tmp 2) (.tmp 33) rfl w.heap.size bK rfl rfl 29 bK HZ.out qO rfl Ft ?_)
     exact wW _ HK2.out HZ.out HE2.out HB2.out EST2.out
  |false=>
   cases hat:Lib.atoiAll p with
   |ok u=>
    have HAT:=h_ hat;clear hat;by_cases h6:ns.length=6
    ·have EST2:Hid (xm (pre++ [⟨p,hp⟩])=none):=by rw[EST.out];show iX _ _=_;unfold iX;simp only[HAT.out,h6,uf]
     have hn6:((ns.length:Int)==6)=true:=by rw[h6];rfl
     have H6:=h_ h6;clear h6 EST
     gi_wp2
     refine⟨trivial,Free.dz ?_⟩;refine(rD p u _ hp HAT.out).mono ?_;rintro e2 w2 ⟨rfl,hb2⟩;have HP2:=h_ (jg (pJ w _ (aL _)) HPI.out hb2);have HK2:=h_ (gC hb2);clear hb2 HPI hf hfc hff;obtain⟨⟨⟨v2,hv,hrow,_⟩,hf,he,hz⟩,hB,hs⟩:=HP2.out;rw[EFS.out]at hf;rw[ENS.out]at hrow;have hfc:=hf.cell;have hff:=hf.frozen;have hvc:=hv.cell;obtain⟨A2,c2,rfl⟩:=fG hrow;have HZ:=h_ hz;have HE2:=h_ he;have HB2:=h_ hB;have hec:(w2.setRow w.heap.size bK).cell? ⟨w.heap.size+1,0,none⟩=some (.int .i64 0):=by rw[World.cell?_of_block (cC (by simp))];exact he.cell
     have hef:(w2.setRow w.heap.size bK).frozen? ⟨w.heap.size+1,0,none⟩=false:=by rw[World.frozen?_of_block (cC (by simp))];exact he.frozen
     clear hz he hB hs
     gi_wp2_with (with_reducible refine Free.fM rfl 29 (.tmp 2) (.tmp 33) rfl w.heap.size bK rfl rfl 29 bK HZ.out qO rfl Ft ?_)
     exact wW _ HK2.out HZ.out HE2.out HB2.out EST2.out
    ·have EST2:Hid (xm (pre++ [⟨p,hp⟩])=some (false,ns++ [u])):=by rw[EST.out];show iX _ _=_;unfold iX;simp only[HAT.out,h6,B6]
     have hn6:((ns.length:Int)==6)=false:=R7.2 (by omega);have hn6':ns.length<6:=by have:=FA.out.2.1;omega
     clear h6 EST
     gi_wp2
     refine⟨trivial,Free.dz ?_⟩;refine(rD p u _ hp HAT.out).mono ?_;rintro e2 w2 ⟨rfl,hb2⟩;have HP2:=h_ (jg (pJ w _ (aL _)) HPI.out hb2);have HK2:=h_ (gC hb2);have HW2:=h_ (hb2.mono HPI.out.2.1.size);clear hb2 HPI hf hfc hff;obtain⟨⟨⟨v2,hv,hrow,_⟩,hf,he,hz⟩,hB,hs⟩:=HP2.out;rw[EFS.out]at hf;rw[ENS.out]at hrow;have hfc:=hf.cell;have hff:=hf.frozen;have hvc:=hv.cell;have hvf:=hv.frozen;obtain⟨A2,c2,rfl⟩:=fG hrow;obtain⟨i0,hi,hz0,hz1,hz2⟩:=info_parts QQ;have HZ:=h_ hz;have HB2:=h_ hB;have HE2:=h_ he;clear hz he hs
     gi_wp2_with (gi_at_builtin;refine wpListIn_append_own _ rfl _ _ 22 rfl w.heap.size 3 i0 (.int .i64 0) 1 8 Tryz.underlying22 hi hz0 hz1 hz2 rfl (by decide) _ _ _ rfl (hrow.alloc _) ⟨w2.heap.size,0,none⟩ 1 1 [.int .i64 u] rfl rfl (cell_one_new _ _ _) (by simp[Value.oneCell']) (by have:maxLen=9223372036854775807:=rfl;omega) (by omega) (by have:=hB.size;simp;omega) ?_;intro v' w1 hown' hgrow _;obtain⟨g',cap',rfl⟩:=ownsRow_succ hown';have hv1:=(hv.appended (by decide) hrow hB.size (by omega) hown' hgrow).1;have hc1:=hv1.cell;have hf1:=hv1.frozen)
     exact FJ _ HK2.out HW2.out HB2.out hv hrow hf HE2.out HZ.out hown' hgrow EST2.out
   |_=>
    have HAT:=h_ hat;clear hat;have EST2:Hid (xm (pre++ [⟨p,hp⟩])=none):=by rw[EST.out];show iX _ _=_;unfold iX;simp only[HAT.out]
    clear EST
    gi_wp2
    refine⟨trivial,Free.dz ?_⟩;refine(xU p _ hp (λv hv=>by rw[HAT.out]at hv;cases hv) (HE.out.below HPI.out.2.1 (aL _))).mono ?_;rintro e2 w2 ⟨hb2,u,T,Nn,rfl⟩;have HP2:=h_ (jg (pJ w _ (aL _)) HPI.out hb2);have HK2:=h_ (gC hb2);clear hb2 HPI hf hfc hff;obtain⟨⟨⟨v2,hv,hrow,_⟩,hf,he,hz⟩,hB,hs⟩:=HP2.out;rw[EFS.out]at hf;rw[ENS.out]at hrow;have hfc:=hf.cell;have hff:=hf.frozen;have hvc:=hv.cell;obtain⟨A2,c2,rfl⟩:=fG hrow;have HZ:=h_ hz;have HE2:=h_ he;have HB2:=h_ hB;have hec:(w2.setRow w.heap.size bK).cell? ⟨w.heap.size+1,0,none⟩=some (.int .i64 0):=by rw[World.cell?_of_block (cC (by simp))];exact he.cell
    have hef:(w2.setRow w.heap.size bK).frozen? ⟨w.heap.size+1,0,none⟩=false:=by rw[World.frozen?_of_block (cC (by simp))];exact he.frozen
    clear hz he hB hs
    gi_wp2_with (with_reducible refine Free.fM rfl 29 (.tmp 2) (.tmp 33) rfl w.heap.size bK rfl rfl 29 bK HZ.out qO rfl Ft ?_)
    exact wW _ HK2.out HZ.out HE2.out HB2.out EST2.out
 case stop=>
  rintro D c pre W hD hpre ⟨⟨he,hz⟩,hB,rfl,hs⟩ hK;have hR:R (.returned (.tuple #[.agg bK, .int .i64 6])) (W.putObj D (.deferred none)):=by
   rw[ER.out];refine⟨hB.trans (belowK_b (w:=w) (aL _) W D _ _ (by omega) hK rfl rfl), .inr ⟨λx hx e=> ?_,rfl⟩⟩;have h1:=o6 hx;rw[e]at h1;have h2:=zo hpre hs;rw[h2]at h1;cases h1
  have HZ:=h_ hz;have HE2:=h_ he;have HK:=h_ hK;have HR:=h_ hR;clear hz he hK hR hB hs;go_wp2_with fail;exact kK 4 _ rfl rfl HZ.out HE2.out HK.out HR.out
 case done=>
  clear HI0 AN hsz;rintro D xs W hD hS hPI hK;obtain⟨⟨⟨v2,hv,hrow,_⟩,hf,he,hz⟩,hB,hs⟩:=hPI;obtain⟨f,ns,est⟩:∃f ns,xm xs=some (f,ns):=by
   cases h:xm xs with
   |none=>rw[h]at hs;cases hs
   |some q=>exact⟨q.1,q.2,rfl⟩
  have RUN:Hid (oZ (jz t)=some (f,ns)):=by rw[<-hS];exact est
  have FA:=h_ (tF est);rw[(IC est).2]at hrow;obtain⟨A2,c2,rfl⟩:=fG hrow;have hvc:=hv.cell;have HZ:=h_ hz;have HE2:=h_ he;have HB2:=h_ hB;have HK:=h_ hK;have HROW:=h_ hrow;have HV:=h_ hv;have HD:Hid (w.heap.size<=D):=by show _<=_;omega
  clear hz he hB hs hf est hS hK hrow hv hD;by_cases h6:ns.length=6
  ·obtain⟨n0,n1,n2,n3,n4,n5,rfl⟩:∃n0 n1 n2 n3 n4 n5,ns= [n0,n1,n2,n3,n4,n5]:=by
    match ns,h6 with
    | [n0,n1,n2,n3,n4,n5],_=>exact⟨_,_,_,_,_,_,rfl⟩
   clear h6;obtain⟨g,rfl⟩:∃g,A2=some ⟨g,0,none⟩:=by
    obtain⟨_,⟨_,h0⟩|⟨g,cap,cur,h1,_⟩⟩:=HROW.out
    ·cases h0
    ·cases h1;exact⟨g,rfl⟩
   have NB:Hid (∀v∈ [n0,n1,n2,n3,n4,n5], -9223372036854775808<=v/\v<=9223372036854775807):=FA.out.2.2;have CE:Hid (∀(j:Nat) (u:Value),[Value.int .i64 n0, .int .i64 n1, .int .i64 n2, .int .i64 n3, .int .i64 n4, .int .i64 n5][j]? =some u->W.cell? ⟨g,j,none⟩=some u):=λj u hu=>by
    rw[HROW.out.cellAt j (by have:=(jS.1 hu).1;simpa using this)];exact hu
   have hn6:(((6:Nat):Int) !=6)=false:=rfl;have hvc6:W.cell? ⟨w.heap.size+1+1,0,none⟩=some (.slice (some ⟨g,0,none⟩) 6 c2):=hvc;have e0:=CE.out 0 _ rfl;have e1:=CE.out 1 _ rfl;have e2:=CE.out 2 _ rfl;have e3:=CE.out 3 _ rfl;have e4:=CE.out 4 _ rfl;have e5:=CE.out 5 _ rfl;have HG:Hid (g<W.heap.size):=(gv e0)
   have HD2:=h_ (iS.1 HK.out).1;have HT2:=h_ (HT.out.below HB2.out (aL _));have HZL:Hid (w.heap.size+1+1<W.heap.size):=(gv hvc6)
   clear hvc CE FA HROW;go_wp2_with fail;refine Free.ai 17 [(16, .ind (λb=> .pointer (some ⟨b,0,none⟩)) (λb w2=>w2.heap[b]? =some (.cells bK 29 (0,0))/\W.heap.size<=b))] (λw2=>Below W.heap.size W w2/\w2.cell? ⟨w.heap.size+1+1,0,none⟩=some (.slice (some ⟨g,0,none⟩) 6 c2)/\w2.cell? ⟨g,0,none⟩=some (.int .i64 n0)/\w2.cell? ⟨g,1,none⟩=some (.int .i64 n1)/\w2.cell? ⟨g,2,none⟩=some (.int .i64 n2)/\w2.cell? ⟨g,3,none⟩=some (.int .i64 n3)/\w2.cell? ⟨g,4,none⟩=some (.int .i64 n4)) (by kernel_rfl) (by kernel_rfl) ?_ ⟨(Below.refl _ _).drew,hvc6,e0,e1,e2,e3,e4⟩ (λ_ _ h g=>⟨h.1.trans (Below.mono g h.1.size),dJ h.2.1 g,dJ h.2.2.1 g,dJ h.2.2.2.1 g,dJ h.2.2.2.2.1 g,dJ h.2.2.2.2.2.1 g,dJ h.2.2.2.2.2.2 g⟩) ?_
   ·intro j mk r hf y w1 w2 hr gr;simp only[Free.find]at hf
    repeat' split at hf
    all_goals (first|(cases hf;exact⟨(gr.block _ (iS.1 hr.1).1).trans hr.1,hr.2⟩)|cases hf)
   simp only[eJ,dT];clear hvc6 e0 e1 e2 e3 e4;iterate 16 (apply Free.ae (Free.wq rfl) rfl;(intro w' hB hA;obtain⟨qB,qv,q0,q1,q2,q3,q4⟩:=hB;clear hA qB;go_light;go_simp<;>rfl);(try simp only[Pt]))
   apply Free.aR rfl rfl
   ·intro w' hB hA;refine Free.cq (v:= .pointer (some ⟨w'.heap.size,0,none⟩)) (w':=w'.alloc (.cells bK 29)) (by clear hB hA;go_light;go_simp<;>rfl) ⟨Free.Grow.alloc _ _,_,rfl,eY rfl,hB.1.size⟩
   intro b;simp only[Pt];apply Free.ax;intro wy hBz _ hh;obtain⟨hbz,hbl⟩:wy.heap[b]? =some (.cells bK 29 (0,0))/\W.heap.size<=b:=hh _ dH;obtain⟨hbW,cv,_,_,_,_,_⟩:=hBz;have c5:=lN e5 hbW HG.out;have hzl:=HZL.out;have hgl:=HG.out;have hb1:w.heap.size+1+1≠b:=by omega
   have hb2:g≠b:=by omega
   have nb0:=NB.out n0 (by simp);have nb1:=NB.out n1 (by simp);have nb2:=NB.out n2 (by simp);have nb3:=NB.out n3 (by simp);have nb4:=NB.out n4 (by simp);simp only[fm,fo];refine wpList_store_row rfl 29 (.tmp 9) (.tmp 57) rfl b #[.int .i64 n0, .int .i64 n1, .int .i64 n2, .int .i64 n3, .int .i64 n4, .bool false] rfl rfl 29 bK hbz qO rfl (by simp[Value.oneCell']) ?_;obtain⟨W3,eW3⟩:=x_ (wy.setRow b #[.int .i64 n0, .int .i64 n1, .int .i64 n2, .int .i64 n3, .int .i64 n4, .bool false])
   have h3z:W3.heap[b]? =some (.cells #[.int .i64 n0, .int .i64 n1, .int .i64 n2, .int .i64 n3, .int .i64 n4, .bool false] 29 (0,0)):=by rw[eW3];exact setRow_heap _ _ _ _ _ _ hbz
   have h3v:W3.cell? ⟨w.heap.size+1+1,0,none⟩=some (.slice (some ⟨g,0,none⟩) 6 c2):=by rw[eW3,World.cell?_of_block (cC hb1)];exact cv
   have h35:W3.cell? ⟨g,5,none⟩=some (.int .i64 n5):=by rw[eW3,World.cell?_of_block (cC hb2)];exact c5
   have h3b:Below W.heap.size W W3:=by rw[eW3];exact hbW.trans (ke hbl)
   rw[<-eW3];have h3c:W3.cell? ⟨b,5,none⟩=some (.bool false):=by simp[World.cell?,h3z]
   have h3f:W3.frozen? ⟨b,5,none⟩=false:=by simp[World.frozen?,h3z]
   obtain⟨sb,hsb⟩:∃sb,(n5==1)=sb:=⟨_,rfl⟩
   have h4b:Below W.heap.size W (W3.setCell ⟨b,5,none⟩ (.bool sb)):=h3b.setCell (p:=⟨b,5,none⟩) hbl _;have h4z:(W3.setCell ⟨b,5,none⟩ (.bool sb)).heap[b]? =some (.cells #[.int .i64 n0, .int .i64 n1, .int .i64 n2, .int .i64 n3, .int .i64 n4, .bool sb] 29 (0,0)):=by have hb:ay W3 b [.int .i64 n0, .int .i64 n1, .int .i64 n2, .int .i64 n3, .int .i64 n4, .bool false] 29:=h3z;exact hb.set 5 _
   obtain⟨W4,eW4⟩:=x_ (W3.setCell ⟨b,5,none⟩ (.bool sb))
   have HW4:Hid (W3.setCell ⟨b,5,none⟩ (.bool sb)=W4):=eW4.symm;rw[<-eW4]at h4b h4z;have f0:W4.cell? ⟨b,0,none⟩=some (.int .i64 n0):=by simp[World.cell?,h4z]
   have f1:W4.cell? ⟨b,1,none⟩=some (.int .i64 n1):=by simp[World.cell?,h4z]
   have f2:W4.cell? ⟨b,2,none⟩=some (.int .i64 n2):=by simp[World.cell?,h4z]
   have f3:W4.cell? ⟨b,3,none⟩=some (.int .i64 n3):=by simp[World.cell?,h4z]
   have f4:W4.cell? ⟨b,4,none⟩=some (.int .i64 n4):=by simp[World.cell?,h4z]
   have f5:W4.cell? ⟨b,5,none⟩=some (.bool sb):=by simp[World.cell?,h4z]
   have hx:(ei.mk n0 n1 n2 n3 n4 sb).Ok:=⟨nb0.1,nb0.2,nb1.1,nb1.2,nb2.1,nb2.2,nb3.1,nb3.2,nb4.1,nb4.2⟩
   have HX:=h_ hx;have HBD:Hid (∀w',cB w'->Calls Tryz.prog 26 #[.agg #[.int .i64 n0, .int .i64 n1, .int .i64 n2, .int .i64 n3, .int .i64 n4, .bool sb]] w' λe w2=>e= .returned (.string (iT ⟨n0,n1,n2,n3,n4,sb⟩))/\Below w'.heap.size w' w2):=λw' h=>xW ⟨n0,n1,n2,n3,n4,sb⟩ w' hx h
   have HFO:Hid (∀x:ei,x.Ok->iT x=⟨t.toArray⟩->x=⟨n0,n1,n2,n3,n4,sb⟩):=by intro x hx e;have h1:=o6 hx;rw[e,show oZ (jz (⟨t.toArray⟩:ByteArray).data.toList)=some (f,[n0,n1,n2,n3,n4,n5]) from RUN.out]at h1;simp only[NS,NO,List.cons.injEq,and_true]at h1;obtain⟨_,h1,h2,h3,h4,h5,h6⟩:=h1;rw[<-nC x, <-h1, <-h2, <-h3, <-h4, <-h5, <-h6, <-hsb];rfl
   obtain⟨bd,ebd⟩:=x_ (iT ⟨n0,n1,n2,n3,n4,sb⟩)
   rw[<-ebd]at HBD;have EBD:=h_ ebd;have H4B:=h_ h4b;have HBL:=h_ hbl;have g0:W3.cell? ⟨b,0,none⟩=some (.int .i64 n0):=by simp[World.cell?,h3z]
   have g1:W3.cell? ⟨b,1,none⟩=some (.int .i64 n1):=by simp[World.cell?,h3z]
   have g2:W3.cell? ⟨b,2,none⟩=some (.int .i64 n2):=by simp[World.cell?,h3z]
   have g3:W3.cell? ⟨b,3,none⟩=some (.int .i64 n3):=by simp[World.cell?,h3z]
   have g4:W3.cell? ⟨b,4,none⟩=some (.int .i64 n4):=by simp[World.cell?,h3z]
   clear hh cv c5 hbz eW3 hbW hx nb0 nb1 nb2 nb3 nb4 h4z h3z h3b h4b e5 NB RUN ebd hbl hb1 hb2 hzl hgl;rw[eW4]at f0 f1 f2 f3 f4 f5 H4B;clear eW4 HW4;go_wp2_with fail;refine(HBD.out _ (HT2.out.below H4B.out (aL _))).mono ?_;rintro e5 w5 ⟨rfl,hb5⟩;have H5B:=h_ (H4B.out.trans (hb5.mono H4B.out.size));have H5Z:Hid (w5.heap[w.heap.size]? =some (.cells bK 29 (0,0))):=(H5B.out.block _ (iS.1 HZ.out).1).trans HZ.out;have H5E:Hid (Boxed w5 (w.heap.size+1) 52 (.int .i64 0)):=(H5B.out.block _ HE2.out.lt).trans HE2.out;have H5K:Hid (w5.heap[D]? =some (.deferred (some []))):=(H5B.out.block _ HD2.out).trans HK.out;have H5W:Hid (Below w.heap.size w w5):=HB2.out.trans (H5B.out.mono HB2.out.size);have r0:=lN f0 hb5 (gv f0);have r1:=lN f1 hb5 (gv f1);have r2:=lN f2 hb5 (gv f2);have r3:=lN f3 hb5 (gv f3);have r4:=lN f4 hb5 (gv f4);have r5:=lN f5 hb5 (gv f5);clear f0 f1 f2 f3 f4 f5 g0 g1 g2 g3 g4 hb5 H5B H4B HBD HV h3v h35 h3c h3f HZ HE2 HK HB2 HT2;obtain⟨q,rfl⟩:∃q:List UInt8,bd=⟨q.toArray⟩:=⟨bd.data.toList,by simp⟩
   by_cases hbt:q=t
   ·subst hbt;have hR:Hid (∀w',Below w.heap.size w w'->R (.returned (.tuple #[.agg #[.int .i64 n0, .int .i64 n1, .int .i64 n2, .int .i64 n3, .int .i64 n4, .bool sb], .int .i64 0])) w'):=by intro w' hb;rw[ER.out];exact⟨hb, .inl ⟨_,HX.out,EBD.out.symm,rfl⟩⟩
    have hec:(w5.setRow w.heap.size #[.int .i64 n0, .int .i64 n1, .int .i64 n2, .int .i64 n3, .int .i64 n4, .bool sb]).cell? ⟨w.heap.size+1,0,none⟩=some (.int .i64 0):=by rw[World.cell?_of_block (cC (by simp))];exact H5E.out.cell
    have hef:(w5.setRow w.heap.size #[.int .i64 n0, .int .i64 n1, .int .i64 n2, .int .i64 n3, .int .i64 n4, .bool sb]).frozen? ⟨w.heap.size+1,0,none⟩=false:=by rw[World.frozen?_of_block (cC (by simp))];exact H5E.out.frozen
    have INF:Hid ((Tryz.prog.info? 29).map (·.size)=some (#[.int .i64 n0, .int .i64 n1, .int .i64 n2, .int .i64 n3, .int .i64 n4, .bool sb]:Array Value).size):=qO;have ONE:Hid ((#[.int .i64 n0, .int .i64 n1, .int .i64 n2, .int .i64 n3, .int .i64 n4, .bool sb]:Array Value).all (·.oneCell')=true):=by show _=_;simp[Value.oneCell']
    have SZE:Hid (bK.size=(#[.int .i64 n0, .int .i64 n1, .int .i64 n2, .int .i64 n3, .int .i64 n4, .bool sb]:Array Value).size):=rfl;go_wp2_with (with_reducible refine wpList_store_row rfl 29 (.tmp 2) (.tmp 68) rfl w.heap.size #[.int .i64 n0, .int .i64 n1, .int .i64 n2, .int .i64 n3, .int .i64 n4, .bool sb] rfl rfl 29 bK H5Z.out INF.out SZE.out ONE.out ?_)
    have hk2:=(mM.trans (KeepsOthers.setCell (w5.setRow w.heap.size #[.int .i64 n0, .int .i64 n1, .int .i64 n2, .int .i64 n3, .int .i64 n4, .bool sb]) ⟨w.heap.size+1,0,none⟩ (.int .i64 0))).same D _ H5K.out rfl;have he2:Boxed (w5.setRow w.heap.size #[.int .i64 n0, .int .i64 n1, .int .i64 n2, .int .i64 n3, .int .i64 n4, .bool sb]) (w.heap.size+1) 52 (.int .i64 0):=(cC (a:=⟨w.heap.size+1,0,none⟩) (by simp)).trans H5E.out;have hb2:Below w.heap.size w ((w5.setRow w.heap.size #[.int .i64 n0, .int .i64 n1, .int .i64 n2, .int .i64 n3, .int .i64 n4, .bool sb]).setCell ⟨w.heap.size+1,0,none⟩ (.int .i64 0)):=(H5W.out.trans (ke (aL _))).setCell (p:=⟨w.heap.size+1,0,none⟩) (by show _<=w.heap.size+1;omega) _;refine kK 4 _ rfl rfl (by rw[Below.heap_setCell _ ⟨w.heap.size+1,0,none⟩ _ w.heap.size (by show w.heap.size≠w.heap.size+1;omega)];exact setRow_heap _ _ _ _ _ _ H5Z.out) (he2.set _) hk2 (hR.out _ ?_);exact hb2.trans (belowK_b (w:=w) (aL _) _ D _ _ HD.out hk2 rfl rfl)
   ·have hR:Hid (∀w',Below w.heap.size w w'->R (.returned (.tuple #[.agg bK, .int .i64 6])) w'):=by
     intro w' hb;rw[ER.out];refine⟨hb, .inr ⟨λx hx e=>hbt ?_,rfl⟩⟩;have h9:(⟨q.toArray⟩:ByteArray)=⟨t.toArray⟩:=by rw[EBD.out, <-HFO.out x hx e];exact e
     injection h9 with h9;exact List.toArray_inj h9
    have hec:(w5.setRow w.heap.size bK).cell? ⟨w.heap.size+1,0,none⟩=some (.int .i64 0):=by rw[World.cell?_of_block (cC (by simp))];exact H5E.out.cell
    have hef:(w5.setRow w.heap.size bK).frozen? ⟨w.heap.size+1,0,none⟩=false:=by rw[World.frozen?_of_block (cC (by simp))];exact H5E.out.frozen
    have hbe:(q==t)=false:=R7.2 hbt;clear hbt;go_wp2_with (with_reducible refine wpList_store_row rfl 29 (.tmp 2) (.tmp 67) rfl w.heap.size bK rfl rfl 29 bK H5Z.out qO rfl Ft ?_)
    have hk2:=(mM.trans (KeepsOthers.setCell (w5.setRow w.heap.size bK) ⟨w.heap.size+1,0,none⟩ (.int .i64 6))).same D _ H5K.out rfl;have he2:Boxed (w5.setRow w.heap.size bK) (w.heap.size+1) 52 (.int .i64 0):=(cC (a:=⟨w.heap.size+1,0,none⟩) (by simp)).trans H5E.out;have hb2:Below w.heap.size w ((w5.setRow w.heap.size bK).setCell ⟨w.heap.size+1,0,none⟩ (.int .i64 6)):=(H5W.out.trans (ke (aL _))).setCell (p:=⟨w.heap.size+1,0,none⟩) (by show _<=w.heap.size+1;omega) _;refine kK 4 _ rfl rfl (by rw[Below.heap_setCell _ ⟨w.heap.size+1,0,none⟩ _ w.heap.size (by show w.heap.size≠w.heap.size+1;omega)];exact setRow_heap _ _ _ _ _ _ H5Z.out) (he2.set _) hk2 (hR.out _ ?_);exact hb2.trans (belowK_b (w:=w) (aL _) _ D _ _ HD.out hk2 rfl rfl)
  ·have hR:Hid (∀w',Below w.heap.size w w'->R (.returned (.tuple #[.agg bK, .int .i64 6])) w'):=by
    intro w' hb;rw[ER.out];refine⟨hb, .inr ⟨λx hx e=> ?_,rfl⟩⟩;have h1:=o6 hx;rw[e]at h1;rw[show oZ (jz (⟨t.toArray⟩:ByteArray).data.toList)=some (f,ns) from RUN.out]at h1;cases h1
    exact h6 rfl
   have hn6:((ns.length:Int) !=6)=true:=bne_iff_ne.2 (by omega);have HN6:=h_ h6;have hec:(W.setRow w.heap.size bK).cell? ⟨w.heap.size+1,0,none⟩=some (.int .i64 0):=by rw[World.cell?_of_block (cC (by simp))];exact HE2.out.cell
   have hef:(W.setRow w.heap.size bK).frozen? ⟨w.heap.size+1,0,none⟩=false:=by rw[World.frozen?_of_block (cC (by simp))];exact HE2.out.frozen
   clear h6;go_wp2_with (with_reducible refine wpList_store_row rfl 29 (.tmp 2) (.tmp 41) rfl w.heap.size bK rfl rfl 29 bK HZ.out qO rfl Ft ?_)
   have hk2:=(mM.trans (KeepsOthers.setCell (W.setRow w.heap.size bK) ⟨w.heap.size+1,0,none⟩ (.int .i64 6))).same D _ HK.out rfl;have he2:Boxed (W.setRow w.heap.size bK) (w.heap.size+1) 52 (.int .i64 0):=(cC (a:=⟨w.heap.size+1,0,none⟩) (by simp)).trans HE2.out;have hb2:Below w.heap.size w ((W.setRow w.heap.size bK).setCell ⟨w.heap.size+1,0,none⟩ (.int .i64 6)):=(HB2.out.trans (ke (aL _))).setCell (p:=⟨w.heap.size+1,0,none⟩) (by show _<=w.heap.size+1;omega) _;refine kK 4 _ rfl rfl (by rw[Below.heap_setCell _ ⟨w.heap.size+1,0,none⟩ _ w.heap.size (by show w.heap.size≠w.heap.size+1;omega)];exact setRow_heap _ _ _ _ _ _ HZ.out) (he2.set _) hk2 (hR.out _ ?_);exact hb2.trans (belowK_b (w:=w) (aL _) _ D _ _ HD.out hk2 rfl rfl)
end Go.Proofs.YtkmbmfengcdmoaaGreatDoor
