/- Package file: Parse. Condition: the library's variables hold what their types say. -/
import Derived.Test.YtkmbmfengcdmoaaGreatDoorZBB
import Derived.Maps.AppendAt
import Derived.RangeFuncBox
set_option maxRecDepth 100000
set_option linter.all false
namespace Go.Proofs.YtkmbmfengcdmoaaGreatDoor
open Go.RowKit Go.ay Go.Shelf Go.Pa Go.Rf
attribute [local go_sem] Oper.semAt_some

theorem rD(l:List UInt8)(v:Int)(w:World)(a:l.length<4294967281)(h:Lib.atoiAll l= .ok v):
  Calls Tryz.prog 110 #[.string ⟨l.toArray⟩] w λe w'=>e= .returned (.tuple #[.int .i64 v, .nilIface])/\Below w.heap.size w w':=by
 refine(Tryz.strconv_Atoi_ok ⟨l.toArray⟩ (by show l.toArray.size<=_;simp;omega) v h w).mono ?_;rintro e w' ⟨rfl,rfl|⟨t,rfl⟩⟩
 ·exact⟨rfl,Below.refl _ _⟩
 ·exact⟨rfl,Lib.bytesWorld_below _ _ _⟩
def KP(w:World)(e:Ending)(w':World):Prop:=Below w.heap.size w w'/\∃v T N,e= .returned (.tuple #[.int .i64 v, .iface T (.pointer (some ⟨N,0,none⟩))])
theorem xU(l:List UInt8)(w:World)(g:l.length<4294967281)(h:∀v,Lib.atoiAll l≠ .ok v)(d:gK w):
  Calls Tryz.prog 110 #[.string ⟨l.toArray⟩] w (KP w):=by
 cases hr:Lib.atoiAll l
 ·exact absurd hr (h _)
 ·obtain⟨a,hv,c⟩:=d.s;refine(Tryz.strconv_Atoi_syntax ⟨l.toArray⟩ (by show l.toArray.size<=_;simp;omega) hr a w hv c).mono ?_;rintro e f ⟨N,rfl,_,_,b⟩;exact⟨b,_,_,_,rfl⟩
 ·obtain⟨a,hv,c⟩:=d.r;refine(Tryz.strconv_Atoi_range ⟨l.toArray⟩ (by show l.toArray.size<=_;simp;omega) hr a w hv c).mono ?_;rintro e f ⟨N,rfl,_,_,b⟩;exact⟨b,_,_,_,rfl⟩
theorem uL{β:Type}(k:Nat)(c:Array Value)(t:TypeId)(f:Nat×Nat):Own (fun(_:β) W=>W.heap[k]? =some (.cells c t f)):=by
 intro s X Y row h d g;refine(d.block k (iS.1 h).1 (λe=> ?_)).trans h;obtain⟨o,a,b⟩:=g k e.symm;rw[h]at a;cases a;cases b
theorem QQ:(Tryz.prog.info? 3).map (λi=>(i.zero,i.size,i.bytes))=some (some (.int .i64 0),1,8):=by kernel_rfl

theorem fG{w:World}{B e s n:Nat}{v:Value}{i:List Value}(h:w.ownsRow B e s v n i):∃A c,v= .slice A n c:=by
 obtain⟨_,⟨a,f⟩|⟨g,b,d,a,_⟩⟩:=h
 ·exact⟨none,0,by rw[a,f]⟩
 ·exact⟨_,_,a⟩
def xm(pre:List Pc):Option (Bool×List Int):=oZ (nb pre)
def QH(pre:List Pc):Bool:=((xm pre).getD (true,[])).1
def Me(pre:List Pc):List Int:=((xm pre).getD (true,[])).2
abbrev bK:Array Value:= #[.int .i64 0, .int .i64 0, .int .i64 0, .int .i64 0, .int .i64 0, .bool false]
theorem qO:(Tryz.prog.info? 29).map (·.size)=some bK.size:=by kernel_rfl
theorem Ft:bK.all (·.oneCell')=true:=by kernel_rfl
theorem cC{w:World}{g:Nat}{cs:Array Value}{a:Addr}(h:a.block≠g):(w.setRow g cs).heap[a.block]? =w.heap[a.block]? :=by unfold World.setRow;simp only[vS];rw[if_neg (λe=>h e.symm)]
def PI(w:World)(pre:List Pc)(W:World):Prop:=
 ((∃v,Boxed W (w.heap.size+1+1) 22 v/\W.ownsRow w.heap.size 3 1 v (Me pre).length ((Me pre).map (Value.int .i64))/\True)/\
 Boxed W (w.heap.size+1+1+1) 4 (.bool (QH pre))/\Boxed W (w.heap.size+1) 52 (.int .i64 0)/\W.heap[w.heap.size]? =some (.cells bK 29 (0,0)))/\(Below w.heap.size w W/\(xm pre).isSome=true)
def PX(w:World)(c:Code)(pre:List Pc)(W:World):Prop:=
 (Boxed W (w.heap.size+1) 52 (.int .i64 6)/\W.heap[w.heap.size]? =some (.cells bK 29 (0,0)))/\(Below w.heap.size w W/\(c= .ret/\xm pre=none))
theorem pJ(w:World)(B:Nat)(b:w.heap.size<=B):OwnFrom B (PI w):=
 OwnFrom.and (OwnFrom.and (Own.from (holdsRow_own w.heap.size (w.heap.size+1+1) 22 3 1 (λa=>(Me a).length) (λa=>(Me a).map (Value.int .i64)) (λ_ _=>True)) _)
  (OwnFrom.and (Own.from (boxed_own _ _ _) _) (OwnFrom.and (Own.from (boxed_own _ _ _) _) (Own.from (uL _ _ _ _) _)))) (OwnFrom.and (ownFrom_below (aL _) b) (ownFrom_pure _ _))
theorem N8(w:World)(B:Nat)(a:w.heap.size<=B)(c:Code):OwnFrom B (PX w c):=
 OwnFrom.and (OwnFrom.and (Own.from (boxed_own _ _ _) _) (Own.from (uL _ _ _ _) _)) (OwnFrom.and (ownFrom_below (aL _) a) (ownFrom_pure _ _))
theorem ke{B g:Nat}{w:World}{cs:Array Value}(h:B<=g):Below B w (w.setRow g cs):=
 ⟨rfl,rfl,rfl,by simp[World.setRow],λk b=>cC (a:=⟨k,0,none⟩) (by show k≠g;omega)⟩
theorem mM{g:Nat}{w:World}{cs:Array Value}:KeepsOthers w (w.setRow g cs):=by
 refine⟨by simp[World.setRow],λk o a b=> ?_⟩;unfold World.setRow;simp only[vS];split
 ·rw[a];cases o<;>first|rfl|cases b
 ·exact a
theorem wW{w W b:World}{c:List Pc}(B:Nat)(f:KeepsOthers W b)(hz:b.heap[w.heap.size]? =some (.cells bK 29 (0,0)))(g:Boxed b (w.heap.size+1) 52 (.int .i64 0))(e:Below w.heap.size w b)(h:xm c=none):
  KeepsFrom B W ((b.setRow w.heap.size bK).setCell ⟨w.heap.size+1,0,none⟩ (.int .i64 6))/\PX w .ret c ((b.setRow w.heap.size bK).setCell ⟨w.heap.size+1,0,none⟩ (.int .i64 6)):=by
 have d:Boxed (b.setRow w.heap.size bK) (w.heap.size+1) 52 (.int .i64 0):=(cC (a:=⟨w.heap.size+1,0,none⟩) (by simp)).trans g;refine⟨((f.trans mM).trans (KeepsOthers.setCell _ _ _)).from _,⟨d.set _, ?_⟩, ?_,rfl,h⟩
 ·rw[Below.heap_setCell _ ⟨w.heap.size+1,0,none⟩ _ w.heap.size (by show w.heap.size≠w.heap.size+1;omega)];exact setRow_heap _ _ _ _ _ _ hz
 ·exact(e.trans (ke (aL _))).setCell (p:=⟨w.heap.size+1,0,none⟩) (by show _<=w.heap.size+1;omega) _
theorem IC{a:List Pc}{f:Bool}{b:List Int}(h:xm a=some (f,b)):QH a=f/\Me a=b:=by unfold QH Me;rw[h];exact⟨rfl,rfl⟩
theorem JE{w W:World}{c b:List Pc}(B:Nat)(h:PI w c W)(l:Me c= [])(f:xm b=some (false,[])):
  KeepsFrom B W (W.setCell ⟨w.heap.size+1+1+1,0,none⟩ (.bool false))/\Below w.heap.size W (W.setCell ⟨w.heap.size+1+1+1,0,none⟩ (.bool false))/\PI w b (W.setCell ⟨w.heap.size+1+1+1,0,none⟩ (.bool false)):=by
 obtain⟨⟨⟨v,hv,a,_⟩,e,k,hz⟩,j,_⟩:=h;obtain⟨g,i⟩:=IC f;have d:Below w.heap.size W (W.setCell ⟨w.heap.size+1+1+1,0,none⟩ (.bool false)):=(Below.refl _ _).setCell (p:=⟨w.heap.size+1+1+1,0,none⟩) (by show _<=w.heap.size+1+1+1;omega) _;refine⟨(KeepsOthers.setCell _ _ _).from _,d,⟨⟨v,hv.other (by omega) _, ?_,trivial⟩, ?_,k.other (by omega) _, ?_⟩,j.trans d,by rw[f];rfl⟩
 ·rw[i, <-l];exact a.kept (grownBy_setCell' W (w.heap.size+1+1+1) (.bool false)) (.inr (e.not_row (by decide) a).symm)
 ·rw[g];exact e.set _
 ·rw[Below.heap_setCell _ ⟨w.heap.size+1+1+1,0,none⟩ _ w.heap.size (by show w.heap.size≠w.heap.size+1+1+1;omega)];exact hz
theorem FJ{w W f k:World}{h:List Pc}{d:List Int}{u:Int}{n:Option Addr}{o m b:Nat}{j:Obj}(B:Nat)(G:KeepsOthers W f)(H:Below w.heap.size W f)(x:Below w.heap.size w f)
  (hv:Boxed f (w.heap.size+1+1) 22 (.slice n d.length o)) (c:f.ownsRow w.heap.size 3 1 (.slice n d.length o) d.length (d.map (Value.int .i64)))
  (z:Boxed f (w.heap.size+1+1+1) 4 (.bool false)) (y:Boxed f (w.heap.size+1) 52 (.int .i64 0)) (hz:f.heap[w.heap.size]? =some (.cells bK 29 (0,0)))
  (i:k.ownsRow w.heap.size 3 1 (.slice (some ⟨m,0,none⟩) (d.length+1) b) (d.length+1) (d.map (Value.int .i64)++ [.int .i64 u])) (a:(f.alloc j).grownBy k (Value.slice n d.length o).ownBlock) (A:xm h=some (false,d++ [u])):
  KeepsFrom B W (k.setCell ⟨w.heap.size+1+1,0,none⟩ (.slice (some ⟨m,0,none⟩) (d.length+1) b))/\Below w.heap.size W (k.setCell ⟨w.heap.size+1+1,0,none⟩ (.slice (some ⟨m,0,none⟩) (d.length+1) b))/\PI w h (k.setCell ⟨w.heap.size+1+1,0,none⟩ (.slice (some ⟨m,0,none⟩) (d.length+1) b)):=by
 obtain⟨I,s,r,q,l⟩:=hv.appended (by decide) c x.size (by omega) i a;obtain⟨E,F⟩:=IC A;have t:k.heap[w.heap.size]? =some (.cells bK 29 (0,0)):=by
  refine(a.block _ (by have:=(iS.1 hz).1;simp;omega) ?_).trans (bZ hz);obtain⟨_,⟨p,_⟩|⟨g,C,D,p,_,v,_⟩⟩:=c
  ·rw[p];simp[Value.ownBlock]
  ·rw[p];intro e;simp[Value.ownBlock]at e;rw[<-e,hz]at v;cases v
 refine⟨(G.trans q).from _,H.trans l,⟨⟨_,s, ?_,trivial⟩, ?_, ?_, ?_⟩,x.trans l,by rw[A];rfl⟩
 ·rw[F];simpa using r
 ·rw[E];exact((z.alloc j).kept a (z.not_row (by decide) c)).other (by omega) _
 ·exact((y.alloc j).kept a (y.not_row (by decide) c)).other (by omega) _
 ·rw[Below.heap_setCell _ ⟨w.heap.size+1+1,0,none⟩ _ w.heap.size (by show w.heap.size≠w.heap.size+1+1;omega)];exact t
theorem kK{R:Ending->World->Prop}{W:World}{D b:Nat}{d f g h c4 i:Value}{k:Int}(n:Nat)(tmps:Array Value)(o:tmps[2]?.getD undef= .pointer (some ⟨b,0,none⟩))(p:tmps[3]?.getD undef= .pointer (some ⟨b+1,0,none⟩))
  (hz:W.heap[b]? =some (.cells #[d,f,g,h,c4,i] 29 (0,0))) (j:Boxed W (b+1) 52 (.int .i64 k)) (c:W.heap[D]? =some (.deferred (some [])))
  (m:R (.returned (.tuple #[.agg #[d,f,g,h,c4,i], .int .i64 k])) (W.putObj D (.deferred none))):bodyPostM Fence.wide n Tryz.prog Tryz.f81 R .ret {tmps,defers:= [{target:= .collected D,args:= #[]}]} W:=by
 refine⟨by simp, .inl ⟨_,_,rfl,run_takeDeferred c, ?_⟩⟩;have a:(W.putObj D (.deferred none)).heap[b]? =some (.cells #[d,f,g,h,c4,i] 29 (0,0)):=by rw[World.putObj_heap_other (λe=>by subst e;rw[hz]at c;cases c)];exact hz
 have l:(W.putObj D (.deferred none)).cell? ⟨b+1,0,none⟩=some (.int .i64 k):=by rw[World.cell?_of_block (World.putObj_heap_other (λe=>by subst e;rw[show W.heap[b+1]? =_ from j]at c;cases c))];exact j.cell
 have q:(W.putObj D (.deferred none)).cell? ⟨b,0,none⟩=some d:=by simp[World.cell?,a]
 have r:(W.putObj D (.deferred none)).cell? ⟨b,1,none⟩=some f:=by simp[World.cell?,a]
 have s:(W.putObj D (.deferred none)).cell? ⟨b,2,none⟩=some g:=by simp[World.cell?,a]
 have t:(W.putObj D (.deferred none)).cell? ⟨b,3,none⟩=some h:=by simp[World.cell?,a]
 have u:(W.putObj D (.deferred none)).cell? ⟨b,4,none⟩=some c4:=by simp[World.cell?,a]
 have v:(W.putObj D (.deferred none)).cell? ⟨b,5,none⟩=some i:=by simp[World.cell?,a]
 refine⟨.tuple #[.agg #[d,f,g,h,c4,i], .int .i64 k], ?_,m⟩;clear a m hz j c;simp[results,Tryz.results81,go_sem,o,p,q,r,s,t,u,v,l]
def pK(t:ByteArray)(w:World)(e:Ending)(w':World):Prop:=Below w.heap.size w w'/\
 ((∃x:ei,x.Ok/\iT x=t/\e= .returned (.tuple #[.agg (bU x).toArray, .int .i64 0]))\/((∀x:ei,x.Ok->iT x≠t)/\e= .returned (.tuple #[.agg bK, .int .i64 6])))
set_option maxHeartbeats 4000000 in
theorem FD(t:List UInt8)(w:World)(ht:t.length<4294967281)(hT:cB w)(hE:gK w):
  Calls Tryz.prog 81 #[.string ⟨t.toArray⟩] w (pK ⟨t.toArray⟩ w):=by
 have HT:=h_ hT;have HE:=h_ hE;clear hT hE;obtain⟨R,eR⟩:=x_ (pK ⟨t.toArray⟩ w)
 rw[<-eR];have ER:=h_ eR;clear eR;refine jB 4 Tryz.func81 rfl ?_;simp only[Tryz.ntmps81,tY,kq,qA,Nat.reduceAdd,Nat.reduceSub,M0,MZ,M7,M6,xK,xC];go_wp2_with fail;refine(AK _ _).mono ?_;rintro e w' ⟨rfl,rfl⟩;go_wp2_with fail;have i':(((((w.alloc (.cells bK 29)).alloc (.cells #[.int .i64 0] 52)).alloc (.cells #[.slice none 0 0] 22)).alloc (.cells #[.bool true] 4)).alloc (.cells #[.string ⟨t.toArray⟩] 9)).heap.size=w.heap.size+5:=by simp
 have jp:Hid (Below w.heap.size w (((((w.alloc (.cells bK 29)).alloc (.cells #[.int .i64 0] 52)).alloc (.cells #[.slice none 0 0] 22)).alloc (.cells #[.bool true] 4)).alloc (.cells #[.string ⟨t.toArray⟩] 9))):=
  (((((Below.refl _ w).alloc (aL _) _).alloc (by simp) _).alloc (by simp;omega) _).alloc (by simp;omega) _).alloc (by simp;omega) _
 have ii:Hid (PI w [] (((((w.alloc (.cells bK 29)).alloc (.cells #[.int .i64 0] 52)).alloc (.cells #[.slice none 0 0] 22)).alloc (.cells #[.bool true] 4)).alloc (.cells #[.string ⟨t.toArray⟩] 9))):=by
  refine⟨⟨⟨.slice none 0 0, ?_,World.ownsRow_nil _ _ _ _,trivial⟩, ?_, ?_, ?_⟩,jp.out,rfl⟩
  ·exact bZ (bZ (eY (by simp)))
  ·exact bZ (eY (by simp))
  ·exact bZ (bZ (bZ (eY (by simp))))
  ·exact bZ (bZ (bZ (bZ (eY rfl))))
 obtain⟨W0,li⟩:=x_ ((((((w.alloc (.cells bK 29)).alloc (.cells #[.int .i64 0] 52)).alloc (.cells #[.slice none 0 0] 22)).alloc (.cells #[.bool true] 4)).alloc (.cells #[.string ⟨t.toArray⟩] 9)))
 have AN:W0.cell? ⟨w.heap.size+1+1+1+1,0,none⟩=some (.string ⟨t.toArray⟩):=by rw[li];exact Boxed.cell (t:=9) (eY (by simp))
 rw[<-li]at i' jp ii⊢;clear li;have Fr:=h_ i';have Fd:w.heap.size<=W0.heap.size:=by omega
 refine Kv (α:=Pc) (encs:=Ly) (n0:=w.heap.size) 4 (by decide) rfl (enters_of Tryz.func187 (by kernel_rfl) rfl) (by omega) (zQ 3 (by decide) _ _ t ht W0 (by omega) HE.out.lt AN (HE.out.below jp.out (aL _))) (λ_=>rfl)
  (PI w) (PX w) (pJ w _ (by omega)) (N8 w _ (by omega)) ii.out ?a1 ?assign ?body ?done ?stop
 case assign=>
  intro l x W K hK
  gi_wp2
  exact hK
 case body=>
  clear ii AN i';go_light;rintro l G ⟨p,hp⟩ W ip Gu;have E:=h_ ip;obtain⟨⟨⟨v,hv,d,_⟩,m,C,hz⟩,F,Q⟩:=ip;obtain⟨f,X,N⟩:∃f X,xm G=some (f,X):=by
   cases h:xm G with
   |none=>rw[h]at Q;cases Q
   |some q=>exact⟨q.1,q.2,rfl⟩
  have co:Hid (QH G=f):=by show _=_;unfold QH;rw[N];rfl
  have dl:Hid (Me G=X):=by show _=_;unfold Me;rw[N];rfl
  have FA:=h_ (tF N);have L:Hid (xm (G++ [⟨p,hp⟩])=iX (some (f,X)) p):=by show oZ (nb (G++ [⟨p,hp⟩]))=_;rw[mS,vD];show iX (xm G) p=_;rw[N]
  rw[co.out]at m;have O:=m.cell;have P:=m.frozen;clear hv d C hz F Q N;cases f with
  |true=>
   by_cases hw:p= [102,97,99,116]
   ·have n:Hid (xm (G++ [⟨p,hp⟩])=some (false,[])):=by rw[L.out,hw];rfl
    have hq:(p== [102,97,99,116])=true:=by rw[hw];rfl
    clear hw L
    gi_wp2
    exact JE _ E.out (by rw[dl.out];exact FA.out.1 trivial) n.out
   ·have n:Hid (xm (G++ [⟨p,hp⟩])=none):=by rw[L.out];show(if _ then _ else _)=_;rw[if_neg hw]
    have hq:(p== [102,97,99,116])=false:=by simpa using hw
    clear hw L;cases hat:Lib.atoiAll p with
    |ok u=>
     have J:=h_ hat;clear hat
     gi_wp2
     refine⟨trivial,Free.dz ?_⟩;refine(rD p u _ hp J.out).mono ?_;rintro e2 H ⟨rfl,i⟩;have U:=h_ (jg (pJ w _ (aL _)) E.out i);have S:=h_ (gC i);clear i E m O P;obtain⟨⟨⟨v2,hv,d,_⟩,m,C,hz⟩,F,Q⟩:=U.out;rw[co.out]at m;rw[dl.out]at d;have O:=m.cell;have P:=m.frozen;have ci:=hv.cell;obtain⟨A2,c2,rfl⟩:=fG d;have M:=h_ hz;have k:=h_ C;have o:=h_ F;have d8:(H.setRow w.heap.size bK).cell? ⟨w.heap.size+1,0,none⟩=some (.int .i64 0):=by rw[World.cell?_of_block (cC (by simp))];exact C.cell
     have d9:(H.setRow w.heap.size bK).frozen? ⟨w.heap.size+1,0,none⟩=false:=by rw[World.frozen?_of_block (cC (by simp))];exact C.frozen
     clear hz C F Q
     gi_wp2_with (with_reducible refine Free.fM rfl 29 (.tmp 2) (.tmp 33) rfl w.heap.size bK rfl rfl 29 bK M.out qO rfl Ft ?_)
     exact wW _ S.out M.out k.out o.out n.out
    |_=>
     have J:=h_ hat;clear hat
     gi_wp2
     refine⟨trivial,Free.dz ?_⟩;refine(xU p _ hp (λv hv=>by rw[J.out]at hv;cases hv) (HE.out.below E.out.2.1 (aL _))).mono ?_;rintro e2 H ⟨i,u,T,Nn,rfl⟩;have U:=h_ (jg (pJ w _ (aL _)) E.out i);have S:=h_ (gC i);clear i E m O P;obtain⟨⟨⟨v2,hv,d,_⟩,m,C,hz⟩,F,Q⟩:=U.out;rw[co.out]at m;rw[dl.out]at d;have O:=m.cell;have P:=m.frozen;have ci:=hv.cell;obtain⟨A2,c2,rfl⟩:=fG d;have M:=h_ hz;have k:=h_ C;have o:=h_ F;have d8:(H.setRow w.heap.size bK).cell? ⟨w.heap.size+1,0,none⟩=some (.int .i64 0):=by rw[World.cell?_of_block (cC (by simp))];exact C.cell
     have d9:(H.setRow w.heap.size bK).frozen? ⟨w.heap.size+1,0,none⟩=false:=by rw[World.frozen?_of_block (cC (by simp))];exact C.frozen
     clear hz C F Q
     gi_wp2_with (with_reducible refine Free.fM rfl 29 (.tmp 2) (.tmp 33) rfl w.heap.size bK rfl rfl 29 bK M.out qO rfl Ft ?_)
     exact wW _ S.out M.out k.out o.out n.out
  |false=>
   cases hat:Lib.atoiAll p with
   |ok u=>
    have J:=h_ hat;clear hat;by_cases h6:X.length=6
    ·have n:Hid (xm (G++ [⟨p,hp⟩])=none):=by rw[L.out];show iX _ _=_;unfold iX;simp only[J.out,h6,uf]
     have m5:((X.length:Int)==6)=true:=by rw[h6];rfl
     have H6:=h_ h6;clear h6 L
     gi_wp2
     refine⟨trivial,Free.dz ?_⟩;refine(rD p u _ hp J.out).mono ?_;rintro e2 H ⟨rfl,i⟩;have U:=h_ (jg (pJ w _ (aL _)) E.out i);have S:=h_ (gC i);clear i E m O P;obtain⟨⟨⟨v2,hv,d,_⟩,m,C,hz⟩,F,Q⟩:=U.out;rw[co.out]at m;rw[dl.out]at d;have O:=m.cell;have P:=m.frozen;have ci:=hv.cell;obtain⟨A2,c2,rfl⟩:=fG d;have M:=h_ hz;have k:=h_ C;have o:=h_ F;have d8:(H.setRow w.heap.size bK).cell? ⟨w.heap.size+1,0,none⟩=some (.int .i64 0):=by rw[World.cell?_of_block (cC (by simp))];exact C.cell
     have d9:(H.setRow w.heap.size bK).frozen? ⟨w.heap.size+1,0,none⟩=false:=by rw[World.frozen?_of_block (cC (by simp))];exact C.frozen
     clear hz C F Q
     gi_wp2_with (with_reducible refine Free.fM rfl 29 (.tmp 2) (.tmp 33) rfl w.heap.size bK rfl rfl 29 bK M.out qO rfl Ft ?_)
     exact wW _ S.out M.out k.out o.out n.out
    ·have n:Hid (xm (G++ [⟨p,hp⟩])=some (false,X++ [u])):=by rw[L.out];show iX _ _=_;unfold iX;simp only[J.out,h6,B6]
     have m5:((X.length:Int)==6)=false:=R7.2 (by omega);have E':X.length<6:=by have:=FA.out.2.1;omega
     clear h6 L
     gi_wp2
     refine⟨trivial,Free.dz ?_⟩;refine(rD p u _ hp J.out).mono ?_;rintro e2 H ⟨rfl,i⟩;have U:=h_ (jg (pJ w _ (aL _)) E.out i);have S:=h_ (gC i);have rt:=h_ (i.mono E.out.2.1.size);clear i E m O P;obtain⟨⟨⟨v2,hv,d,_⟩,m,C,hz⟩,F,Q⟩:=U.out;rw[co.out]at m;rw[dl.out]at d;have O:=m.cell;have P:=m.frozen;have ci:=hv.cell;have G':=hv.frozen;obtain⟨A2,c2,rfl⟩:=fG d;obtain⟨i0,hi,C',Do,D'⟩:=info_parts QQ;have M:=h_ hz;have o:=h_ F;have k:=h_ C;clear hz C Q
     gi_wp2_with (gi_at_builtin;refine wpListIn_append_own _ rfl _ _ 22 rfl w.heap.size 3 i0 (.int .i64 0) 1 8 Tryz.underlying22 hi C' Do D' rfl (by decide) _ _ _ rfl (d.alloc _) ⟨H.heap.size,0,none⟩ 1 1 [.int .i64 u] rfl rfl (cell_one_new _ _ _) (by simp[Value.oneCell']) (by have:maxLen=9223372036854775807:=rfl;omega) (by omega) (by have:=F.size;simp;omega) ?_;intro v' w1 bi gt _;obtain⟨g',E9,rfl⟩:=ownsRow_succ bi;have py:=(hv.appended (by decide) d F.size (by omega) bi gt).1;have Gb:=py.cell;have Gs:=py.frozen)
     exact FJ _ S.out rt.out o.out hv d m k.out M.out bi gt n.out
   |_=>
    have J:=h_ hat;clear hat;have n:Hid (xm (G++ [⟨p,hp⟩])=none):=by rw[L.out];show iX _ _=_;unfold iX;simp only[J.out]
    clear L
    gi_wp2
    refine⟨trivial,Free.dz ?_⟩;refine(xU p _ hp (λv hv=>by rw[J.out]at hv;cases hv) (HE.out.below E.out.2.1 (aL _))).mono ?_;rintro e2 H ⟨i,u,T,Nn,rfl⟩;have U:=h_ (jg (pJ w _ (aL _)) E.out i);have S:=h_ (gC i);clear i E m O P;obtain⟨⟨⟨v2,hv,d,_⟩,m,C,hz⟩,F,Q⟩:=U.out;rw[co.out]at m;rw[dl.out]at d;have O:=m.cell;have P:=m.frozen;have ci:=hv.cell;obtain⟨A2,c2,rfl⟩:=fG d;have M:=h_ hz;have k:=h_ C;have o:=h_ F;have d8:(H.setRow w.heap.size bK).cell? ⟨w.heap.size+1,0,none⟩=some (.int .i64 0):=by rw[World.cell?_of_block (cC (by simp))];exact C.cell
    have d9:(H.setRow w.heap.size bK).frozen? ⟨w.heap.size+1,0,none⟩=false:=by rw[World.frozen?_of_block (cC (by simp))];exact C.frozen
    clear hz C F Q
    gi_wp2_with (with_reducible refine Free.fM rfl 29 (.tmp 2) (.tmp 33) rfl w.heap.size bK rfl rfl 29 bK M.out qO rfl Ft ?_)
    exact wW _ S.out M.out k.out o.out n.out
 case stop=>
  rintro D c G W hD pu ⟨⟨C,hz⟩,F,rfl,Q⟩ hK;have hR:R (.returned (.tuple #[.agg bK, .int .i64 6])) (W.putObj D (.deferred none)):=by
   rw[ER.out];refine⟨F.trans (belowK_b (w:=w) (aL _) W D _ _ (by omega) hK rfl rfl), .inr ⟨λx hx e=> ?_,rfl⟩⟩;have h1:=o6 hx;rw[e]at h1;have h2:=zo pu Q;rw[h2]at h1;cases h1
  have M:=h_ hz;have k:=h_ C;have HK:=h_ hK;have HR:=h_ hR;clear hz C hK hR F Q;go_wp2_with fail;exact kK 4 _ rfl rfl M.out k.out HK.out HR.out
 case done=>
  clear ii AN i';rintro D xs W hD hS ip hK;obtain⟨⟨⟨v2,hv,d,_⟩,m,C,hz⟩,F,Q⟩:=ip;obtain⟨f,X,N⟩:∃f X,xm xs=some (f,X):=by
   cases h:xm xs with
   |none=>rw[h]at Q;cases Q
   |some q=>exact⟨q.1,q.2,rfl⟩
  have ld:Hid (oZ (jz t)=some (f,X)):=by rw[<-hS];exact N
  have FA:=h_ (tF N);rw[(IC N).2]at d;obtain⟨A2,c2,rfl⟩:=fG d;have ci:=hv.cell;have M:=h_ hz;have k:=h_ C;have o:=h_ F;have HK:=h_ hK;have gc:=h_ d;have HV:=h_ hv;have HD:Hid (w.heap.size<=D):=by show _<=_;omega
  clear hz C F Q m N hS hK d hv hD;by_cases h6:X.length=6
  ·obtain⟨n0,s,z,A,B,n5,rfl⟩:∃n0 s z A B n5,X= [n0,s,z,A,B,n5]:=by
    match X,h6 with
    | [n0,s,z,A,B,n5],_=>exact⟨_,_,_,_,_,_,rfl⟩
   clear h6;obtain⟨g,rfl⟩:∃g,A2=some ⟨g,0,none⟩:=by
    obtain⟨_,⟨_,h0⟩|⟨g,Fs,Fw,h1,_⟩⟩:=gc.out
    ·cases h0
    ·cases h1;exact⟨g,rfl⟩
   have NB:Hid (∀v∈ [n0,s,z,A,B,n5], -9223372036854775808<=v/\v<=9223372036854775807):=FA.out.2.2;have CE:Hid (∀(j:Nat) (u:Value),[Value.int .i64 n0, .int .i64 s, .int .i64 z, .int .i64 A, .int .i64 B, .int .i64 n5][j]? =some u->W.cell? ⟨g,j,none⟩=some u):=λj u hu=>by
    rw[gc.out.cellAt j (by have:=(jS.1 hu).1;simpa using this)];exact hu
   have m5:(((6:Nat):Int) !=6)=false:=rfl;have g7:W.cell? ⟨w.heap.size+1+1,0,none⟩=some (.slice (some ⟨g,0,none⟩) 6 c2):=ci;have e0:=CE.out 0 _ rfl;have e1:=CE.out 1 _ rfl;have e2:=CE.out 2 _ rfl;have e3:=CE.out 3 _ rfl;have e4:=CE.out 4 _ rfl;have e5:=CE.out 5 _ rfl;have HG:Hid (g<W.heap.size):=(gv e0)
   have qr:=h_ (iS.1 HK.out).1;have pi:=h_ (HT.out.below o.out (aL _));have sm:Hid (w.heap.size+1+1<W.heap.size):=(gv g7)
   clear ci CE FA gc;go_wp2_with fail;refine Free.ai 17 [(16, .ind (λb=> .pointer (some ⟨b,0,none⟩)) (λb H=>H.heap[b]? =some (.cells bK 29 (0,0))/\W.heap.size<=b))] (λH=>Below W.heap.size W H/\H.cell? ⟨w.heap.size+1+1,0,none⟩=some (.slice (some ⟨g,0,none⟩) 6 c2)/\H.cell? ⟨g,0,none⟩=some (.int .i64 n0)/\H.cell? ⟨g,1,none⟩=some (.int .i64 s)/\H.cell? ⟨g,2,none⟩=some (.int .i64 z)/\H.cell? ⟨g,3,none⟩=some (.int .i64 A)/\H.cell? ⟨g,4,none⟩=some (.int .i64 B)) (by kernel_rfl) (by kernel_rfl) ?_ ⟨(Below.refl _ _).drew,g7,e0,e1,e2,e3,e4⟩ (λ_ _ h g=>⟨h.1.trans (Below.mono g h.1.size),dJ h.2.1 g,dJ h.2.2.1 g,dJ h.2.2.2.1 g,dJ h.2.2.2.2.1 g,dJ h.2.2.2.2.2.1 g,dJ h.2.2.2.2.2.2 g⟩) ?_
   ·intro j mk r m y w1 H hr gr;simp only[Free.find]at m
    repeat' split at m
    all_goals (first|(cases m;exact⟨(gr.block _ (iS.1 hr.1).1).trans hr.1,hr.2⟩)|cases m)
   simp only[eJ,dT];clear g7 e0 e1 e2 e3 e4;iterate 16 (apply Free.ae (Free.wq rfl) rfl;(intro w' F hA;obtain⟨qB,qv,q0,q1,q2,q3,q4⟩:=F;clear hA qB;go_light;go_simp<;>rfl);(try simp only[Pt]))
   apply Free.aR rfl rfl
   ·intro w' F hA;refine Free.cq (v:= .pointer (some ⟨w'.heap.size,0,none⟩)) (w':=w'.alloc (.cells bK 29)) (by clear F hA;go_light;go_simp<;>rfl) ⟨Free.Grow.alloc _ _,_,rfl,eY rfl,F.1.size⟩
   intro b;simp only[Pt];apply Free.ax;intro wy An _ hh;obtain⟨m4,i8⟩:wy.heap[b]? =some (.cells bK 29 (0,0))/\W.heap.size<=b:=hh _ dH;obtain⟨mt,cv,_,_,_,_,_⟩:=An;have c5:=lN e5 mt HG.out;have E8:=sm.out;have At:=HG.out;have pm:w.heap.size+1+1≠b:=by omega
   have i:g≠b:=by omega
   have m6:=NB.out n0 (by simp);have m7:=NB.out s (by simp);have m8:=NB.out z (by simp);have m9:=NB.out A (by simp);have nl:=NB.out B (by simp);simp only[fm,fo];refine wpList_store_row rfl 29 (.tmp 9) (.tmp 57) rfl b #[.int .i64 n0, .int .i64 s, .int .i64 z, .int .i64 A, .int .i64 B, .bool false] rfl rfl 29 bK m4 qO rfl (by simp[Value.oneCell']) ?_;obtain⟨W3,d7⟩:=x_ (wy.setRow b #[.int .i64 n0, .int .i64 s, .int .i64 z, .int .i64 A, .int .i64 B, .bool false])
   have V:W3.heap[b]? =some (.cells #[.int .i64 n0, .int .i64 s, .int .i64 z, .int .i64 A, .int .i64 B, .bool false] 29 (0,0)):=by rw[d7];exact setRow_heap _ _ _ _ _ _ m4
   have z':W3.cell? ⟨w.heap.size+1+1,0,none⟩=some (.slice (some ⟨g,0,none⟩) 6 c2):=by rw[d7,World.cell?_of_block (cC pm)];exact cv
   have v6:W3.cell? ⟨g,5,none⟩=some (.int .i64 n5):=by rw[d7,World.cell?_of_block (cC i)];exact c5
   have pl:Below W.heap.size W W3:=by rw[d7];exact mt.trans (ke i8)
   rw[<-d7];have wn:W3.cell? ⟨b,5,none⟩=some (.bool false):=by simp[World.cell?,V]
   have ww:W3.frozen? ⟨b,5,none⟩=false:=by simp[World.frozen?,V]
   obtain⟨I,By⟩:∃I,(n5==1)=I:=⟨_,rfl⟩
   have lw:Below W.heap.size W (W3.setCell ⟨b,5,none⟩ (.bool I)):=pl.setCell (p:=⟨b,5,none⟩) i8 _;have Y:(W3.setCell ⟨b,5,none⟩ (.bool I)).heap[b]? =some (.cells #[.int .i64 n0, .int .i64 s, .int .i64 z, .int .i64 A, .int .i64 B, .bool I] 29 (0,0)):=by have hb:ay W3 b [.int .i64 n0, .int .i64 s, .int .i64 z, .int .i64 A, .int .i64 B, .bool false] 29:=V;exact hb.set 5 _
   obtain⟨W4,io⟩:=x_ (W3.setCell ⟨b,5,none⟩ (.bool I))
   have rx:Hid (W3.setCell ⟨b,5,none⟩ (.bool I)=W4):=io.symm;rw[<-io]at lw Y;have f0:W4.cell? ⟨b,0,none⟩=some (.int .i64 n0):=by simp[World.cell?,Y]
   have f1:W4.cell? ⟨b,1,none⟩=some (.int .i64 s):=by simp[World.cell?,Y]
   have f2:W4.cell? ⟨b,2,none⟩=some (.int .i64 z):=by simp[World.cell?,Y]
   have f3:W4.cell? ⟨b,3,none⟩=some (.int .i64 A):=by simp[World.cell?,Y]
   have f4:W4.cell? ⟨b,4,none⟩=some (.int .i64 B):=by simp[World.cell?,Y]
   have f5:W4.cell? ⟨b,5,none⟩=some (.bool I):=by simp[World.cell?,Y]
   have hx:(ei.mk n0 s z A B I).Ok:=⟨m6.1,m6.2,m7.1,m7.2,m8.1,m8.2,m9.1,m9.2,nl.1,nl.2⟩
   have HX:=h_ hx;have kw:Hid (∀w',cB w'->Calls Tryz.prog 26 #[.agg #[.int .i64 n0, .int .i64 s, .int .i64 z, .int .i64 A, .int .i64 B, .bool I]] w' λe H=>e= .returned (.string (iT ⟨n0,s,z,A,B,I⟩))/\Below w'.heap.size w' H):=λw' h=>xW ⟨n0,s,z,A,B,I⟩ w' hx h
   have ro:Hid (∀x:ei,x.Ok->iT x=⟨t.toArray⟩->x=⟨n0,s,z,A,B,I⟩):=by intro x hx e;have h1:=o6 hx;rw[e,show oZ (jz (⟨t.toArray⟩:ByteArray).data.toList)=some (f,[n0,s,z,A,B,n5]) from ld.out]at h1;simp only[NS,NO,List.cons.injEq,and_true]at h1;obtain⟨_,h1,h2,h3,h4,h5,h6⟩:=h1;rw[<-nC x, <-h1, <-h2, <-h3, <-h4, <-h5, <-h6, <-By];rfl
   obtain⟨bd,lm⟩:=x_ (iT ⟨n0,s,z,A,B,I⟩)
   rw[<-lm]at kw;have no:=h_ lm;have f8:=h_ lw;have Fk:=h_ i8;have g0:W3.cell? ⟨b,0,none⟩=some (.int .i64 n0):=by simp[World.cell?,V]
   have g1:W3.cell? ⟨b,1,none⟩=some (.int .i64 s):=by simp[World.cell?,V]
   have g2:W3.cell? ⟨b,2,none⟩=some (.int .i64 z):=by simp[World.cell?,V]
   have g3:W3.cell? ⟨b,3,none⟩=some (.int .i64 A):=by simp[World.cell?,V]
   have g4:W3.cell? ⟨b,4,none⟩=some (.int .i64 B):=by simp[World.cell?,V]
   clear hh cv c5 m4 d7 mt hx m6 m7 m8 m9 nl Y V pl lw e5 NB ld lm i8 pm i E8 At;rw[io]at f0 f1 f2 f3 f4 f5 f8;clear io rx;go_wp2_with fail;refine(kw.out _ (pi.out.below f8.out (aL _))).mono ?_;rintro e5 w5 ⟨rfl,Z⟩;have f9:=h_ (f8.out.trans (Z.mono f8.out.size));have g8:Hid (w5.heap[w.heap.size]? =some (.cells bK 29 (0,0))):=(f9.out.block _ (iS.1 M.out).1).trans M.out;have d6:Hid (Boxed w5 (w.heap.size+1) 52 (.int .i64 0)):=(f9.out.block _ k.out.lt).trans k.out;have n8:Hid (w5.heap[D]? =some (.deferred (some []))):=(f9.out.block _ qr.out).trans HK.out;have ol:Hid (Below w.heap.size w w5):=o.out.trans (f9.out.mono o.out.size);have r0:=lN f0 Z (gv f0);have r1:=lN f1 Z (gv f1);have r2:=lN f2 Z (gv f2);have r3:=lN f3 Z (gv f3);have r4:=lN f4 Z (gv f4);have r5:=lN f5 Z (gv f5);clear f0 f1 f2 f3 f4 f5 g0 g1 g2 g3 g4 Z f9 f8 kw HV z' v6 wn ww M k HK o pi;obtain⟨q,rfl⟩:∃q:List UInt8,bd=⟨q.toArray⟩:=⟨bd.data.toList,by simp⟩
   by_cases i9:q=t
   ·subst i9;have hR:Hid (∀w',Below w.heap.size w w'->R (.returned (.tuple #[.agg #[.int .i64 n0, .int .i64 s, .int .i64 z, .int .i64 A, .int .i64 B, .bool I], .int .i64 0])) w'):=by intro w' hb;rw[ER.out];exact⟨hb, .inl ⟨_,HX.out,no.out.symm,rfl⟩⟩
    have d8:(w5.setRow w.heap.size #[.int .i64 n0, .int .i64 s, .int .i64 z, .int .i64 A, .int .i64 B, .bool I]).cell? ⟨w.heap.size+1,0,none⟩=some (.int .i64 0):=by rw[World.cell?_of_block (cC (by simp))];exact d6.out.cell
    have d9:(w5.setRow w.heap.size #[.int .i64 n0, .int .i64 s, .int .i64 z, .int .i64 A, .int .i64 B, .bool I]).frozen? ⟨w.heap.size+1,0,none⟩=false:=by rw[World.frozen?_of_block (cC (by simp))];exact d6.out.frozen
    have ul:Hid ((Tryz.prog.info? 29).map (·.size)=some (#[.int .i64 n0, .int .i64 s, .int .i64 z, .int .i64 A, .int .i64 B, .bool I]:Array Value).size):=qO;have up:Hid ((#[.int .i64 n0, .int .i64 s, .int .i64 z, .int .i64 A, .int .i64 B, .bool I]:Array Value).all (·.oneCell')=true):=by show _=_;simp[Value.oneCell']
    have ut:Hid (bK.size=(#[.int .i64 n0, .int .i64 s, .int .i64 z, .int .i64 A, .int .i64 B, .bool I]:Array Value).size):=rfl;go_wp2_with (with_reducible refine wpList_store_row rfl 29 (.tmp 2) (.tmp 68) rfl w.heap.size #[.int .i64 n0, .int .i64 s, .int .i64 z, .int .i64 A, .int .i64 B, .bool I] rfl rfl 29 bK g8.out ul.out ut.out up.out ?_)
    have an:=(mM.trans (KeepsOthers.setCell (w5.setRow w.heap.size #[.int .i64 n0, .int .i64 s, .int .i64 z, .int .i64 A, .int .i64 B, .bool I]) ⟨w.heap.size+1,0,none⟩ (.int .i64 0))).same D _ n8.out rfl;have ge:Boxed (w5.setRow w.heap.size #[.int .i64 n0, .int .i64 s, .int .i64 z, .int .i64 A, .int .i64 B, .bool I]) (w.heap.size+1) 52 (.int .i64 0):=(cC (a:=⟨w.heap.size+1,0,none⟩) (by simp)).trans d6.out;have i:Below w.heap.size w ((w5.setRow w.heap.size #[.int .i64 n0, .int .i64 s, .int .i64 z, .int .i64 A, .int .i64 B, .bool I]).setCell ⟨w.heap.size+1,0,none⟩ (.int .i64 0)):=(ol.out.trans (ke (aL _))).setCell (p:=⟨w.heap.size+1,0,none⟩) (by show _<=w.heap.size+1;omega) _;refine kK 4 _ rfl rfl (by rw[Below.heap_setCell _ ⟨w.heap.size+1,0,none⟩ _ w.heap.size (by show w.heap.size≠w.heap.size+1;omega)];exact setRow_heap _ _ _ _ _ _ g8.out) (ge.set _) an (hR.out _ ?_);exact i.trans (belowK_b (w:=w) (aL _) _ D _ _ HD.out an rfl rfl)
   ·have hR:Hid (∀w',Below w.heap.size w w'->R (.returned (.tuple #[.agg bK, .int .i64 6])) w'):=by
     intro w' hb;rw[ER.out];refine⟨hb, .inr ⟨λx hx e=>i9 ?_,rfl⟩⟩;have h9:(⟨q.toArray⟩:ByteArray)=⟨t.toArray⟩:=by rw[no.out, <-ro.out x hx e];exact e
     injection h9 with h9;exact List.toArray_inj h9
    have d8:(w5.setRow w.heap.size bK).cell? ⟨w.heap.size+1,0,none⟩=some (.int .i64 0):=by rw[World.cell?_of_block (cC (by simp))];exact d6.out.cell
    have d9:(w5.setRow w.heap.size bK).frozen? ⟨w.heap.size+1,0,none⟩=false:=by rw[World.frozen?_of_block (cC (by simp))];exact d6.out.frozen
    have F':(q==t)=false:=R7.2 i9;clear i9;go_wp2_with (with_reducible refine wpList_store_row rfl 29 (.tmp 2) (.tmp 67) rfl w.heap.size bK rfl rfl 29 bK g8.out qO rfl Ft ?_)
    have an:=(mM.trans (KeepsOthers.setCell (w5.setRow w.heap.size bK) ⟨w.heap.size+1,0,none⟩ (.int .i64 6))).same D _ n8.out rfl;have ge:Boxed (w5.setRow w.heap.size bK) (w.heap.size+1) 52 (.int .i64 0):=(cC (a:=⟨w.heap.size+1,0,none⟩) (by simp)).trans d6.out;have i:Below w.heap.size w ((w5.setRow w.heap.size bK).setCell ⟨w.heap.size+1,0,none⟩ (.int .i64 6)):=(ol.out.trans (ke (aL _))).setCell (p:=⟨w.heap.size+1,0,none⟩) (by show _<=w.heap.size+1;omega) _;refine kK 4 _ rfl rfl (by rw[Below.heap_setCell _ ⟨w.heap.size+1,0,none⟩ _ w.heap.size (by show w.heap.size≠w.heap.size+1;omega)];exact setRow_heap _ _ _ _ _ _ g8.out) (ge.set _) an (hR.out _ ?_);exact i.trans (belowK_b (w:=w) (aL _) _ D _ _ HD.out an rfl rfl)
  ·have hR:Hid (∀w',Below w.heap.size w w'->R (.returned (.tuple #[.agg bK, .int .i64 6])) w'):=by
    intro w' hb;rw[ER.out];refine⟨hb, .inr ⟨λx hx e=> ?_,rfl⟩⟩;have h1:=o6 hx;rw[e]at h1;rw[show oZ (jz (⟨t.toArray⟩:ByteArray).data.toList)=some (f,X) from ld.out]at h1;cases h1
    exact h6 rfl
   have m5:((X.length:Int) !=6)=true:=bne_iff_ne.2 (by omega);have Fl:=h_ h6;have d8:(W.setRow w.heap.size bK).cell? ⟨w.heap.size+1,0,none⟩=some (.int .i64 0):=by rw[World.cell?_of_block (cC (by simp))];exact k.out.cell
   have d9:(W.setRow w.heap.size bK).frozen? ⟨w.heap.size+1,0,none⟩=false:=by rw[World.frozen?_of_block (cC (by simp))];exact k.out.frozen
   clear h6;go_wp2_with (with_reducible refine wpList_store_row rfl 29 (.tmp 2) (.tmp 41) rfl w.heap.size bK rfl rfl 29 bK M.out qO rfl Ft ?_)
   have an:=(mM.trans (KeepsOthers.setCell (W.setRow w.heap.size bK) ⟨w.heap.size+1,0,none⟩ (.int .i64 6))).same D _ HK.out rfl;have ge:Boxed (W.setRow w.heap.size bK) (w.heap.size+1) 52 (.int .i64 0):=(cC (a:=⟨w.heap.size+1,0,none⟩) (by simp)).trans k.out;have i:Below w.heap.size w ((W.setRow w.heap.size bK).setCell ⟨w.heap.size+1,0,none⟩ (.int .i64 6)):=(o.out.trans (ke (aL _))).setCell (p:=⟨w.heap.size+1,0,none⟩) (by show _<=w.heap.size+1;omega) _;refine kK 4 _ rfl rfl (by rw[Below.heap_setCell _ ⟨w.heap.size+1,0,none⟩ _ w.heap.size (by show w.heap.size≠w.heap.size+1;omega)];exact setRow_heap _ _ _ _ _ _ M.out) (ge.set _) an (hR.out _ ?_);exact i.trans (belowK_b (w:=w) (aL _) _ D _ _ HD.out an rfl rfl)
end Go.Proofs.YtkmbmfengcdmoaaGreatDoor
