/- Package house: the entries of a house in their order. Condition: the house lies in memory. -/
import Derived.Test.YtkmbmfengcdmoaaGreatDoorZAH
import Derived.Test.YtkmbmfengcdmoaaGreatDoorPa2
import Derived.Test.YtkmbmfengcdmoaaGreatDoorZBA
import Derived.Test.YtkmbmfengcdmoaaGreatDoorZAI
import Derived.Sort.Walk0
import Derived.Test.YtkmbmfengcdmoaaGreatDoorZAL
import Derived.Test.YtkmbmfengcdmoaaGreatDoorZAJ
import Derived.Great.BuildSlice
import Derived.DeepKeys4
import Derived.Shelf.SlGeneric
import Derived.Shelf.SlLaysF
import Derived.Shelf.SlLaysF0
import Derived.Shelf.SlLaysE0
import Derived.Test.YtkmbmfengcdmoaaGreatDoorProg
import Derived.Laws.MakeOwn
import Derived.Shelf.SlSortCmp.Whole1
import Derived.Shelf.SlSortCmp.NoneTotal
set_option linter.all false
set_option maxRecDepth 100000
namespace Go.Ho
open Go
def ui(x y:Int):Int:=if x<y then -1 else if y<x then 1 else 0
def GD:List Int->Int
 | []=>0
 |x::r=>if x=0 then GD r else x
def sk(x y:ByteArray):Int:=if x.data.toList<y.data.toList then -1 else if y.data.toList<x.data.toList then 1 else 0
theorem Lk(a b:Int):ui a b<0↔a<b:=by unfold ui;split<;>(try split)<;>omega
theorem Lj(a b:Int):ui a b=0↔a=b:=by unfold ui;split<;>(try split)<;>omega
theorem Nh{a b:ByteArray}(h:a.data.toList=b.data.toList):a=b:=by cases a;cases b;congr 1;exact M5 h
theorem Lm(a b:ByteArray):sk a b<0↔a.data.toList<b.data.toList:=by
 unfold sk;split
 ·rename_i h;simp[h]
 ·rename_i h;split<;>simp[h]
def xG(f:ByteArray->Int)(a b:ByteArray):Prop:=f a<f b\/(f a=f b/\a.data.toList<b.data.toList)
def Am(f:ByteArray->Int)(a b:ByteArray):Int:=GD [ui (f a) (f b),sk a b]
theorem Ll(f:ByteArray->Int)(a b:ByteArray):Am f a b<0↔xG f a b:=by
 unfold Am xG;simp only[GD];have j:=Lk (f a) (f b);have g:=Lj (f a) (f b);have d:=Lm a b;by_cases e:ui (f a) (f b)=0
 ·rw[if_pos e];have i:=g.1 e;by_cases c:sk a b=0
  ·rw[if_pos c];rw[c]at d;exact⟨λh=>absurd h (by decide),λh=>by
    rcases h with h|h
    ·omega
    ·exact absurd (d.2 h.2) (by decide)⟩
  ·rw[if_neg c,d];exact⟨λh=> .inr ⟨i,h⟩,λh=>by
    rcases h with h|h
    ·omega
    ·exact h.2⟩
 ·rw[if_neg e,j];exact⟨.inl,λh=>by
   rcases h with h|h
   ·exact h
   ·exact absurd (g.2 h.1) e⟩
theorem sU(f:ByteArray->Int)(a:ByteArray): ¬xG f a a:=by
 rintro(h|h)
 ·omega
 ·exact List.lt_irrefl _ h.2
theorem mI{f:ByteArray->Int}{a b c:ByteArray}(h:xG f a b)(k:xG f b c):xG f a c:=by
 rcases h with h|⟨h,h'⟩<;>rcases k with k|⟨k,d⟩
 ·exact .inl (by omega)
 ·exact .inl (by omega)
 ·exact .inl (by omega)
 ·exact .inr ⟨by omega,List.lt_trans h' d⟩
theorem vc{f:ByteArray->Int}{a b:ByteArray}(h: ¬xG f a b)(k: ¬xG f b a):a=b:=by
 have e:f a=f b:=by
  rcases Int.lt_trichotomy (f a) (f b)with q|q|q
  ·exact absurd (.inl q) h
  ·exact q
  ·exact absurd (.inl q) k
 exact Nh (List.le_antisymm (λq=>k (.inr ⟨e.symm,q⟩)) (λq=>h (.inr ⟨e,q⟩)))
theorem AY{f:ByteArray->Int}{a b c:ByteArray}(h: ¬xG f a b)(k: ¬xG f b c): ¬xG f a c:=by
 intro q;rcases Classical.em (xG f b a)with g|g
 ·exact k (mI g q)
 ·exact k ((vc h g)▸q)
instance (f:ByteArray->Int) (a b:ByteArray):Decidable (xG f a b):=by unfold xG;infer_instance
def Ff(f:ByteArray->Int)(x:ByteArray):List ByteArray->List ByteArray
 | []=> [x]
 |y::r=>if xG f x y then x::y::r else y::Ff f x r
def BF(f:ByteArray->Int):List ByteArray->List ByteArray
 | []=> []
 |x::r=>Ff f x (BF f r)
theorem qj(f:ByteArray->Int)(x:ByteArray):∀l,(Ff f x l).Perm (x::l)
 | []=>P5 _
 |y::r=>by
  unfold Ff;split
  ·exact P5 _
  ·exact((qj f x r).cons y).trans (List.Perm.swap x y r)
theorem dY(f:ByteArray->Int):∀l,(BF f l).Perm l
 | []=>P5 _
 |x::r=>(qj f x _).trans ((dY f r).cons x)
def z7(f:ByteArray->Int)(l:List ByteArray):Prop:=l.Pairwise (λa b=> ¬xG f b a)
theorem yF{f:ByteArray->Int}{x:ByteArray}:∀ {l},z7 f l->z7 f (Ff f x l)
 | [],_=>List.pairwise_singleton _ _
 |y::r,h=>by
  have a:=List.pairwise_cons.1 h;unfold Ff;split
  ·rename_i q;refine List.pairwise_cons.2 ⟨λz hz=> ?_,h⟩;rcases lC.1 hz with rfl|hz
   ·exact λk=>sU f x (mI q k)
   ·exact λk=>a.1 z hz (mI k q)
  ·rename_i q;refine List.pairwise_cons.2 ⟨λz hz=> ?_,yF a.2⟩;rcases lC.1 ((qj f x r).mem_iff.1 hz)with rfl|hz
   ·exact q
   ·exact a.1 z hz
theorem mq(f:ByteArray->Int):∀l,z7 f (BF f l)
 | []=>List.Pairwise.nil
 |_::r=>yF (mq f r)
theorem tL{f:ByteArray->Int}{l c:List ByteArray}(h:l.Perm c)(d:z7 f l)(e:z7 f c):l=c:=
 List.Perm.eq_of_pairwise (le:=λa b=> ¬xG f b a) (λ_ _ _ _ g i=>vc i g) d e h
end Go.Ho
namespace Go.Proofs.YtkmbmfengcdmoaaGreatDoor
open Go.RowKit Go.ay Go.Jn Go.Dk Go.Ho
def aP(e:aV):ByteArray:=dec e.r++⟨#[32]⟩++dec e.s++⟨#[32]⟩++gb e
theorem wY(e:aV):(aP e).data.toList=Lib.itoa e.r++32::(Lib.itoa e.s++32::Kq e):=by unfold aP;simp[pX,gb]
theorem kQ{a b:aV}(h:aP a=aP b):a=b:=by
 have c:(aP a).data.toList=(aP b).data.toList:=by rw[h]
 rw[wY,wY]at c;obtain⟨d,g⟩:=iy (cN _) (cN _) c;obtain⟨e,i⟩:=iy (cN _) (cN _) g;have f:gb a=gb b:=by unfold gb;rw[i]
 obtain⟨j,k,l,m,n⟩:=MU f;have o:=j5 d;have q:=j5 e;cases a;cases b;simp_all
theorem j9{e:aV}(h:e.Ok):(aP e).size<=138+e.prev.size+e.body.size:=by
 have b:=cR e.r h.r0 h.r1;have c:=cR e.s h.s0 h.s1;have d:=iz h;have a:(aP e).size=(dec e.r).size+1+(dec e.s).size+1+(gb e).size:=by unfold aP;rw[dU,dU,dU,dU];rfl
 omega
abbrev dv:=List (ByteArray×aV)
structure HS where
 aj:Int
 bQ:Int
 days:Int
 me:Int
 secret:Int
 bF:List Int
 js:JS
 run:Bool
 aw:dv
def aM:aV:=⟨0,0,0,⟨#[]⟩,⟨#[]⟩,0,0⟩
def fP(aw:dv)(t:ByteArray):aV:=(Mk.get aw t).getD aM
def nL(aw:dv)(t:ByteArray):Int:=(fP aw t).seq
def dj(aj:Int)(e:aV):Bool:=decide (0<=e.house)&&(decide (e.house<aj)&&(decide (0<=e.seq)&&(decide (e.seq<4000)&&(decide (0<=e.day)&&decide (e.day<=2000)))))
def gB(aj:Int)(bF:List Int)(e:aV)(text:ByteArray):Bool:=
 dj aj e&&(decide ((text.size:Int)<=2000)&&nM e (bF.getD e.house.toNat 0))
def j6(aw:dv)(house:Int):List ByteArray:=(aw.filter λp=>p.2.house==house).map (·.1)
def nO(aw:dv)(house:Int):List ByteArray:=BF (nL aw) (j6 aw house)
def bJ(aw:dv)(house:Int):List aV:=(nO aw house).map (fP aw)
def jD(l:List aV):Nat->Nat->Nat
 |0,n=>n
 |k+1,n=>if n<l.length/\(l[n]?.map (·.seq))=some (n:Int)/\(n+1=l.length\/(l[n+1]?.map (·.seq))≠some (n:Int))then jD l k (n+1)else n
def pV(l:List aV):Nat:=jD l l.length 0
def Ej(l:List aV)(house pub:Int):Nat:=if(iA (l.take (pV l)) house pub).2≥0 then(iA (l.take (pV l)) house pub).2.toNat else pV l
def fA(l:List aV)(house pub:Int):List aV:=l.take (Ej l house pub)
def bE(s:HS)(house:Int):List aV:=fA (bJ s.aw house) house (s.bF.getD house.toNat 0)
open Go.Opn Go.Maps Go.WideMaps
def qw(s:ByteArray):Prop:=s.size<=maxLen
theorem kH:Mk.Key Tryz.prog 9 Value.string qw:=
 ⟨string_keyed Tryz.underlying9,λx a=>⟨_,keyOf_string_mk Tryz.underlying9 a⟩,λx y _ _ h=>by injection h⟩
def fv(e:aV):Value:= .agg (aK e).toArray
theorem zU(w:World):(zeroValue 42).run Tryz.prog w= .ok (fv aM) w:=by kernel_rfl
theorem I9(aw:dv)(t:ByteArray):((Mk.get aw t).map fv).getD (fv aM)=fv (fP aw t):=by
 unfold fP;cases Mk.get aw t<;>rfl
theorem Ln(x y:Int)(w:World):Calls Tryz.prog 88 #[.int .i64 x, .int .i64 y] w λe w'=>e= .returned (.int .i64 (ui x y))/\w'=w:=by
 go_enter Tryz.func88,Tryz.ntmps88
 go_wp2
 all_goals (go_ret;refine⟨?_,rfl⟩;unfold ui;(repeat' split)<;>first|rfl|(exfalso;omega))
theorem Dn(x:ByteArray)(w:World):Calls Tryz.prog 135 #[.string x] w λe w'=>e= .returned (.bool false)/\w'=w:=by
 go_enter Tryz.func135,Tryz.ntmps135
 go_wp2
 all_goals (go_ret;simp)
theorem Lp(x y:ByteArray)(w:World):Calls Tryz.prog 89 #[.string x, .string y] w λe w'=>e= .returned (.int .i64 (sk x y))/\w'=w:=by
 obtain⟨R,i⟩:=x_ (λe w'=>e= .returned (.int .i64 (sk x y))/\w'=w:Ending->World->Prop)
 rw[<-i];have a:Hid (∀v,v=sk x y->R (.returned (.int .i64 v)) w):=h_ λv h=>by rw[i,h];exact⟨rfl,rfl⟩
 clear i;have f:=h_ (Dn x w);have g:=h_ (Dn y w);have k:Op.bytesLess x.toList y.toList=decide (x.data.toList<y.data.toList):=by rw[Go.Proofs.bytesLess_eq,je,je]
 have j:(x.toList==y.toList)=decide (x.data.toList=y.data.toList):=by rw[Px,je,je];simp
 by_cases b:x.data.toList<y.data.toList
 ·rw[dt b]at k;have d:=h_ (a.out (-1) (by unfold sk;rw[if_pos b]));clear j b a;go_enter Tryz.func89,Tryz.ntmps89;go_wp2_with fail;refine f.out.mono ?_;rintro e w' ⟨rfl,rfl⟩;go_wp2_with fail;refine g.out.mono ?_;rintro e w' ⟨rfl,rfl⟩;go_wp2_with fail;exact d.out
 ·rw[dy b]at k;by_cases c:y.data.toList<x.data.toList
  ·rw[dy (by intro e;rw[e]at c;exact List.lt_irrefl _ c)]at j;have d:=h_ (a.out 1 (by unfold sk;rw[if_neg b,if_pos c]));clear b c a;go_enter Tryz.func89,Tryz.ntmps89;go_wp2_with fail;refine f.out.mono ?_;rintro e w' ⟨rfl,rfl⟩;go_wp2_with fail;refine g.out.mono ?_;rintro e w' ⟨rfl,rfl⟩;go_wp2_with fail;exact d.out
  ·rw[dt (List.le_antisymm c b)]at j;have d:=h_ (a.out 0 (by unfold sk;rw[if_neg b,if_neg c]));clear b c a;go_enter Tryz.func89,Tryz.ntmps89;go_wp2_with fail;refine f.out.mono ?_;rintro e w' ⟨rfl,rfl⟩;go_wp2_with fail;refine g.out.mono ?_;rintro e w' ⟨rfl,rfl⟩;go_wp2_with fail;exact d.out
theorem Lw{α:Type}{l:List α}{k:Nat}{x:α}(h:l[k]? =some x):l.drop k=x::l.drop (k+1):=by have a:=(jS.1 h).1;rw[List.drop_eq_getElem_cons a];congr 1;exact(jS.1 h).2
theorem O4(A:Option Addr)(c:Nat)(l:List Int)(w:World)(z:SL w 1 Cs.encI A l)(B:l.length<=1000):Calls Tryz.prog 87 #[.slice A l.length c] w λe w'=>e= .returned (.int .i64 (GD l))/\w'=w:=by
 obtain⟨R,t⟩:=x_ (λe w'=>e= .returned (.int .i64 (GD l))/\w'=w:Ending->World->Prop)
 rw[<-t];have f:Hid (∀v,v=GD l->R (.returned (.int .i64 v)) w):=h_ λv h=>by rw[t,h];exact⟨rfl,rfl⟩
 clear t;have s:=h_ z;have C:=h_ B;clear z B;go_enter Tryz.func87,Tryz.ntmps87;go_wp2_with fail
 go_loopw [8] (λv wr=> ∃k:Nat,v= .int .i64 (k:Int)/\k<=l.length/\Hid (GD l=GD (l.drop k))/\wr=w) (λv _=>(l.length:Int).toNat- (RowKit.intOf v).toNat)
 case atStart=>exact⟨0,rfl,gu _,h_ rfl,rfl⟩
 case round=>
  obtain⟨k,rfl,o,j,F⟩:=hrel;subst F;rcases pC o with a|a
  ·have u:(k:Int)<(l.length:Int):=by omega
   have E:(k:Int)+1<=9223372036854775807:=by have:=C.out;omega
   obtain⟨d,m⟩:∃x,l[k]? =some x:=⟨_,eH a⟩
   have g:=s.out;obtain⟨b,G,rfl⟩:=cG g (by intro e;rw[e]at a;simp at a);have H:=fi g m;have n:=Lw m;have y:=j;by_cases i:d=0
   ·have q:(d !=0)=false:=by simp[i]
    have D:Hid (GD l=GD (l.drop (k+1))):=h_ (by rw[y.out,n];show(if d=0 then _ else _)=_;rw[if_pos i]);clear n m g i j o s;go_wp2_with fail
    go_roundw
    case rel=>exact⟨k+1,rfl,a,D,by trivial⟩
    case measure=>simp[RowKit.intOf];omega
   ·have q:(d !=0)=true:=by simpa using i
    have r:=h_ (f.out d (by rw[y.out,n];show _=(if d=0 then _ else _);rw[if_neg i]));clear f n m g i j o s;go_wp2_with fail;exact r.out
  ·have u: ¬(k:Int)<(l.length:Int):=by omega
   have r:=h_ (f.out 0 (by rw[j.out,List.drop_of_length_le (by omega)];rfl));clear f j o a;go_wp2_with fail;exact r.out
def GR(w w':World):Prop:=∃q os',w'=Sort.grow (w.drewN q) os'
theorem GR.refl(w:World):GR w w:=⟨0, #[],by simp[Sort.grow,World.drewN]⟩
theorem GR.trans(a b c:World)(h:GR a b)(k:GR b c):GR a c:=by obtain⟨q,e,rfl⟩:=h;obtain⟨f,d,rfl⟩:=k;refine⟨q+f,e++d, ?_⟩;simp[Sort.grow,World.drewN,Array.append_assoc,Nat.add_assoc]
theorem GR.alloc(w:World)(o:Obj):GR w (w.alloc o):=⟨0, #[o],by rw[Sort.alloc_eq_grow];simp[Sort.grow,World.drewN]⟩
theorem GR.drew(w:World):GR w w.drew:=⟨1, #[],by unfold Sort.grow World.drewN World.drew;simp only[Array.append_empty]⟩
theorem GR.below{w w':World}(h:GR w w'):Below w.heap.size w w':=by obtain⟨q,b,rfl⟩:=h;exact⟨rfl,rfl,rfl,by simp[Sort.grow,World.drewN],λk a=>by simp[Sort.grow,World.drewN,Array.getElem?_append,a]⟩
theorem zO(x y:Int)(w:World):(Instr.buildSlice 22 2 #[(0, .int .i64 x),(1, .int .i64 y)]).run Tryz.prog w= .ok (.slice (some ⟨w.heap.size,0,none⟩) 2 2) (w.alloc (.cells #[.int .i64 x, .int .i64 y] 3)):=by kernel_rfl
theorem lU{P:Program}{o:Oper}{ρ:Operand->Value}{w w':World}{t:TypeId}{x y:Operand}{v:Value}(a:o.op= .buildSlice t 2 #[(0,x),(1,y)])(h:(Instr.buildSlice t 2 #[(0,ρ x),(1,ρ y)]).run P w= .ok v w'):(execOp ρ o).run P w= .ok (.value v) w':=by unfold execOp;simp[a,h]
theorem mO{w:World}{z:Nat}{T:TypeId}{l:List Int}(h:ay w z (l.map (Value.int .i64)) T):SL w 1 Cs.encI (some ⟨z,0,none⟩) l:=
 ⟨λ_=>⟨z,0,rfl,λi e b p u a=>by
  have c:p=0:=by have:=(jS.1 a).1;simp[Cs.encI]at this;exact this
  subst c;simp[Cs.encI]at a;subst a;rw[show 0+(i*1+0)=i by omega];exact h.ag i _ (by rw[mx,b];rfl)⟩⟩
theorem nB{ρ:Operand->Value}{d:Oper}{w:World}{b:Nat}{aw:dv}{m x:Operand}{t:ByteArray}(e:d.op= .lookup 102 m x false)(h:Mk.bL w Value.string qw fv b aw)(f:qw t)(hm:ρ m= .map (some b))(c:ρ x= .string t):
  (execOp ρ d).run Tryz.prog w= .ok (.value (fv (fP aw t))) w:=by
 have a:=h.look kH (t:=102) Tryz.underlying102 (zU w) f false;unfold execOp;simp only[e,hm,c];simp only[GA,B6,I9]at a;simp[a,Result.andThen]
theorem Ey{ρ:Operand->Value}{a:Oper}{w:World}{x:Operand}{e:aV}(c:a.op= .field 42 x 1)(d:ρ x=fv e):(execOp ρ a).run Tryz.prog w= .ok (.value (.int .i64 e.seq)) w:=by
 have b:Sem.run Tryz.prog (Instr.field 42 (fv e) 1) w= .ok (.int .i64 e.seq) w:=by kernel_rfl
 unfold execOp;simp only[c,d];simp[b,Result.andThen]
structure pI (bx hb mb:Nat) (aw:dv) (w:World):Prop where
 box:w.cell? ⟨bx,0,none⟩=some (.pointer (some ⟨hb,0,none⟩))
 mp:w.cell? ⟨hb,8,none⟩=some (.map (some mb))
 is:Mk.bL w Value.string qw fv mb aw
theorem pI.below{bx hb mb:Nat}{aw:dv}{w w':World}(h:pI bx hb mb aw w)(b:Below w.heap.size w w'):pI bx hb mb aw w':=by
 have k:∀ {a:Addr} {v:Value},w.cell? a=some v->w'.cell? a=some v:=fun {a v} hv=>by rw[b.cell (World.block_lt_of_cell? w a hv)];exact hv
 exact⟨k h.box,k h.mp,h.is.bD (b.block _ h.is.lt)⟩
def TF(c1 c2:Int):List (Nat×Free.gN):= [(14, .det (.int .i64 c1)),(17, .det (.int .i64 c2)),(18, .ind (λx=> .slice (some ⟨x,0,none⟩) 2 2) (λx w=>ay w x [.int .i64 c1, .int .i64 c2] 3)),(19, .det (.int .i64 (GD [c1,c2])))]
set_option maxHeartbeats 1000000 in
theorem IP(bx hb mb:Nat)(aw:dv)(x y:ByteArray)(F:qw x)(G:qw y)(W:World)(h:pI bx hb mb aw W):
  Calls Tryz.prog 86 #[.string x, .string y, .pointer (some ⟨bx,0,none⟩)] W λe w'=>e= .returned (.int .i64 (Am (nL aw) x y))/\∃q d,w'=Sort.grow (W.drewN q) d:=by
 obtain⟨R,n⟩:=x_ (λe w'=>e= .returned (.int .i64 (Am (nL aw) x y))/\∃q d,w'=Sort.grow (W.drewN q) d:Ending->World->Prop)
 rw[<-n];obtain⟨c,l⟩:=x_ (ui (nL aw x) (nL aw y))
 obtain⟨g,m⟩:=x_ (sk x y)
 have k:Hid (∀w',GR W w'->R (.returned (.int .i64 (GD [c,g]))) w'):=h_ λw' hb=>by rw[n,l,m];exact⟨rfl,hb⟩
 have B:Hid (ui (fP aw x).seq (fP aw y).seq=c):=h_ l.symm;have C:=h_ m.symm;have s:=h_ h;clear n l m h;go_enter Tryz.func86,Tryz.ntmps86;go_wp2_with fail
 letI:Fre2.Rel:=⟨GR,GR.refl,GR.trans⟩
 refine Fre2.ai 20 (TF c g) (pI bx hb mb aw) (by kernel_rfl) (by kernel_rfl) ?_ (s.out.below (GR.drew _).below) (λK L h r=>h.below (GR.below r)) ?_
 ·intro j N r i z K L u J;simp only[TF,Free.find]at i
  repeat' split at i
  all_goals first|(cases i;done)|skip
  cases i
  exact u.below (GR.below J) u.lt
 simp only[eJ,dT];iterate 5 (apply Fre2.ae (Free.wq rfl) rfl;(intro w' a b;have H:=a.box;have I:=a.mp;clear b a;go_light;go_simp<;>rfl);(try simp only[Pt]))
 apply Fre2.ae (Free.wq rfl) rfl
 ·intro w' a b;exact nB rfl a.is F rfl rfl
 simp only[Pt];apply Fre2.ae (Free.wq rfl) rfl
 ·intro w' a b;exact Ey rfl rfl
 simp only[Pt];iterate 5 (apply Fre2.ae (Free.wq rfl) rfl;(intro w' a b;have H:=a.box;have I:=a.mp;clear b a;go_light;go_simp<;>rfl);(try simp only[Pt]))
 apply Fre2.ae (Free.wq rfl) rfl
 ·intro w' a b;exact nB rfl a.is G rfl rfl
 simp only[Pt];apply Fre2.ae (Free.wq rfl) rfl
 ·intro w' a b;exact Ey rfl rfl
 simp only[Pt];apply Fre2.aC (Free.wq rfl) rfl
 ·intro w' a b;refine Free.au (f:=88) (args:= #[.int .i64 (fP aw x).seq, .int .i64 (fP aw y).seq]) (by clear a b;go_simp<;>rfl) ?_;refine(Ln _ _ _).mono ?_;rintro e A ⟨rfl,rfl⟩;exact⟨_,rfl,GR.refl _,by rw[B.out]⟩
 simp only[Pt];iterate 2 (apply Fre2.ae (Free.wq rfl) rfl;(intro w' a b;clear b a;go_light;go_simp<;>rfl);(try simp only[Pt]))
 apply Fre2.aC (Free.wq rfl) rfl
 ·intro w' a b;refine Free.au (f:=89) (args:= #[.string x, .string y]) (by clear a b;go_simp<;>rfl) ?_;refine(Lp _ _ _).mono ?_;rintro e A ⟨rfl,rfl⟩;exact⟨_,rfl,GR.refl _,by rw[C.out]⟩
 simp only[Pt];apply Fre2.aR (Free.wq rfl) rfl
 ·intro w' a b;exact Free.cq (lU rfl (zO c g w')) ⟨GR.alloc _ _,w'.heap.size,rfl,ay.new w' [.int .i64 c, .int .i64 g] 3⟩
 intro z;simp only[Pt];apply Fre2.aC (Free.wq rfl) rfl
 ·intro w' a b;have hz:ay w' z [.int .i64 c, .int .i64 g] 3:=b _ dH (by kernel_rfl);refine Free.au (f:=87) (args:= #[.slice (some ⟨z,0,none⟩) 2 2]) (by clear a b hz;go_simp<;>rfl) ?_;refine(O4 (some ⟨z,0,none⟩) 2 [c,g] w' (mO hz) (by simp)).mono ?_;rintro e A ⟨rfl,rfl⟩;exact⟨_,rfl,GR.refl _,rfl⟩
 simp only[Pt];apply Fre2.ax;intro M o t E;have D:=h_ (k.out M (GR.trans _ _ _ (GR.drew _) t));clear o t E s;go_wp2_with fail;exact D.out
end Go.Proofs.YtkmbmfengcdmoaaGreatDoor
namespace Go.Proofs
open Go.Shelf
def Tryz.ML:Go.Shelf.Ren:=⟨fun|6=>85|15=>91|14=>133|28=>136|29=>137|20=>193|21=>194|22=>195|23=>196|24=>197|25=>198|26=>199|27=>200|46=>238|47=>232|48=>233|49=>239|50=>240|57=>273|n=>n,fun|22=>137|24=>9|25=>170|3=>3|39=>172|0=>0|53=>226|55=>228|4=>4|46=>276|45=>275|50=>150|5=>5|9=>9|66=>323|70=>305|76=>354|77=>355|n=>n,fun|n=>n⟩
theorem Tryz.TV:Go.Proofs.SlLaysF.n6 Tryz.prog Tryz.ML:=by
 refine' {f6:=⟨Tryz.f85.name,by decide,Tryz.func85.trans (congrArg some (by kernel_rfl))⟩,f14:=⟨Tryz.f133.name,by decide,Tryz.func133.trans (congrArg some (by kernel_rfl))⟩,f20:=⟨Tryz.f193.name,by decide,Tryz.func193.trans (congrArg some (by kernel_rfl))⟩,f21:=⟨Tryz.f194.name,by decide,Tryz.func194.trans (congrArg some (by kernel_rfl))⟩,f22:=⟨Tryz.f195.name,by decide,Tryz.func195.trans (congrArg some (by kernel_rfl))⟩,f23:=⟨Tryz.f196.name,by decide,Tryz.func196.trans (congrArg some (by kernel_rfl))⟩,f24:=⟨Tryz.f197.name,by decide,Tryz.func197.trans (congrArg some (by kernel_rfl))⟩,f25:=⟨Tryz.f198.name,by decide,Tryz.func198.trans (congrArg some (by kernel_rfl))⟩,f26:=⟨Tryz.f199.name,by decide,Tryz.func199.trans (congrArg some (by kernel_rfl))⟩,f27:=⟨Tryz.f200.name,by decide,Tryz.func200.trans (congrArg some (by kernel_rfl))⟩,f46:=⟨Tryz.f238.name,by decide,Tryz.func238.trans (congrArg some (by kernel_rfl))⟩,f49:=⟨Tryz.f239.name,by decide,Tryz.func239.trans (congrArg some (by kernel_rfl))⟩,f50:=⟨Tryz.f240.name,by decide,Tryz.func240.trans (congrArg some (by kernel_rfl))⟩,f57:=⟨Tryz.f273.name,by decide,Tryz.func273.trans (congrArg some (by kernel_rfl))⟩,..}<;>repeat' first|kernel_rfl|decide|intro _|constructor
def Tryz.MK:Go.Shelf.Ren:=⟨fun|6=>71|15=>91|14=>118|28=>136|29=>137|20=>176|21=>177|22=>178|23=>179|24=>180|25=>181|26=>182|27=>183|46=>231|47=>232|48=>233|49=>234|50=>235|57=>272|n=>n,fun|22=>73|24=>29|25=>146|3=>3|39=>172|0=>0|53=>226|55=>228|4=>4|46=>276|45=>275|50=>150|5=>5|9=>9|66=>323|70=>305|76=>354|77=>355|n=>n,fun|n=>n⟩
theorem Tryz.TU:Go.Proofs.SlLaysF0.n6 Tryz.prog Tryz.MK:=by
 refine' {f6:=⟨Tryz.f71.name,by decide,Tryz.func71.trans (congrArg some (by kernel_rfl))⟩,f14:=⟨Tryz.f118.name,by decide,Tryz.func118.trans (congrArg some (by kernel_rfl))⟩,f20:=⟨Tryz.f176.name,by decide,Tryz.func176.trans (congrArg some (by kernel_rfl))⟩,f21:=⟨Tryz.f177.name,by decide,Tryz.func177.trans (congrArg some (by kernel_rfl))⟩,f22:=⟨Tryz.f178.name,by decide,Tryz.func178.trans (congrArg some (by kernel_rfl))⟩,f23:=⟨Tryz.f179.name,by decide,Tryz.func179.trans (congrArg some (by kernel_rfl))⟩,f24:=⟨Tryz.f180.name,by decide,Tryz.func180.trans (congrArg some (by kernel_rfl))⟩,f25:=⟨Tryz.f181.name,by decide,Tryz.func181.trans (congrArg some (by kernel_rfl))⟩,f26:=⟨Tryz.f182.name,by decide,Tryz.func182.trans (congrArg some (by kernel_rfl))⟩,f27:=⟨Tryz.f183.name,by decide,Tryz.func183.trans (congrArg some (by kernel_rfl))⟩,f46:=⟨Tryz.f231.name,by decide,Tryz.func231.trans (congrArg some (by kernel_rfl))⟩,f49:=⟨Tryz.f234.name,by decide,Tryz.func234.trans (congrArg some (by kernel_rfl))⟩,f50:=⟨Tryz.f235.name,by decide,Tryz.func235.trans (congrArg some (by kernel_rfl))⟩,f57:=⟨Tryz.f272.name,by decide,Tryz.func272.trans (congrArg some (by kernel_rfl))⟩,..}<;>repeat' first|kernel_rfl|decide|intro _|constructor
def Tryz.Li:Go.Shelf.Ren:=⟨fun|41=>66|n=>n,fun|22=>22|23=>3|4=>4|n=>n,fun|n=>n⟩
theorem Tryz.T7:Go.Proofs.SlLaysE0.n41 Tryz.prog Tryz.Li:=by
 refine' {f41:=⟨Tryz.f66.name,by decide,Tryz.func66.trans (congrArg some (by kernel_rfl))⟩,..}<;>repeat' first|kernel_rfl|decide|intro _|constructor
end Go.Proofs
namespace Go.Proofs.YtkmbmfengcdmoaaGreatDoor
open Go.RowKit Go.ay Go.Jn Go.Dk Go.Ho Go.Opn Go.Maps Go.WideMaps Go.Apl
structure Lo where
 hb:Nat
 jb:Nat
 mb:Nat
 A:Option Addr
 c:Nat
def wm(o:Lo)(s:HS):List Value:= [.int .i64 s.aj, .int .i64 s.bQ, .int .i64 s.days, .int .i64 s.me, .int .i64 s.secret, .slice o.A s.bF.length o.c, .pointer (some ⟨o.jb,0,none⟩), .bool s.run, .map (some o.mb)]
structure HR (w:World) (o:Lo) (s:HS):Prop where
 bg:ay w o.hb (wm o s) 104
 mp:Mk.bL w Value.string qw fv o.mb s.aw
 bF:SL w 1 Cs.encI o.A s.bF
theorem HR.below{w w':World}{o:Lo}{s:HS}(h:HR w o s)(hb:Below w.heap.size w w'):HR w' o s:=
 ⟨h.bg.below hb h.bg.lt,h.mp.bD (hb.block _ h.mp.lt),h.bF.below hb (aL _)⟩
structure Nc (aw:dv):Prop where
 eq:∀p∈aw,p.1=aP p.2
 ok:∀p∈aw,p.2.Ok/\p.2.prev.size<=1000000000/\p.2.body.size<=1000000000
 jX:aw.length<=1000000
theorem QS:(Tryz.prog.info? 9).map (λi=>(i.zero,i.size,i.bytes))=some (some (.string ⟨#[]⟩),1,16):=by kernel_rfl
def mW(t:ByteArray):List Value:= [.string t]
theorem sC(t:ByteArray):(mW t).length=1:=rfl
theorem EU(l:List ByteArray):l.flatMap mW=l.map Value.string:=by
 induction l with
 |nil=>rfl
 |cons x l ih=>rw[BZ,ih];rfl
theorem Il(t:ByteArray):∀u∈mW t,u.oneCell'=true:=λu a=>by simp only[mW,vU]at a;subst a;rfl
structure S1 (W:World) (mb hb:Nat) (aw:dv) (house:Int) (done left:dv) (v:Value) (w:World):Prop where
 rg:Mk.db w Value.string qw fv mb (W.heap.size+1) aw left
 perm:(done++left).Perm aw
 row:w.ownsRow (W.heap.size+2) 9 1 v (j6 done house).length ((j6 done house).flatMap mW)
 box:w.cell? ⟨W.heap.size,0,none⟩=some (.pointer (some ⟨hb,0,none⟩))
 below:Below W.heap.size W w
 size:W.heap.size+2<=w.heap.size
section
variable {W w w':World} {mb hb:Nat} {aw done left pre post:dv} {house:Int} {v v':Value} {p:ByteArray×aV}
theorem oN(done:dv)(p:ByteArray×aV)(house:Int):j6 (done++ [p]) house=j6 done house++(if p.2.house==house then [p.1]else []):=by
 unfold j6;rw[List.filter_append,uE];congr 1;by_cases h:(p.2.house==house)=true
 ·rw[if_pos h];simp[List.filter,h]
 ·rw[if_neg h];simp[List.filter,h]
structure KD (W:World) (mb hb:Nat) (aw:dv) (house:Int) (done:dv) (p:ByteArray×aV) (left:dv) (v:Value) (w:World):Prop where
 rg:Mk.db w Value.string qw fv mb (W.heap.size+1) aw left
 perm:((done++ [p])++left).Perm aw
 row:w.ownsRow (W.heap.size+2) 9 1 v (j6 done house).length ((j6 done house).flatMap mW)
 box:w.cell? ⟨W.heap.size,0,none⟩=some (.pointer (some ⟨hb,0,none⟩))
 below:Below W.heap.size W w
 size:W.heap.size+2<=w.heap.size
theorem S1.next(h:S1 W mb hb aw house done left v w)(c:left=pre++p::post)(d:Mk.db w' Value.string qw fv mb (W.heap.size+1) aw (pre++post))(b:w.grownBy w' (some (W.heap.size+1))):
  KD W mb hb aw house done p (pre++post) v w':=by
 have f:=h.size;refine⟨d, ?_,bC h.row (λk e=> ?_), ?_,h.below.trans ⟨b.os,b.tape,b.output,b.size,λk g=>b.block k (by omega) (λe=>by injection e with e;omega)⟩,fO f b.size⟩
 ·refine List.Perm.trans ?_ h.perm;rw[c,List.append_assoc];refine List.Perm.append_left done ?_;show(p::(pre++post)).Perm (pre++p::post);exact List.perm_middle.symm
 ·have:=World.ownsRow.lt h.row k e;exact b.block k this.2 (λe=>by injection e with e;omega)
 ·rw[World.cell?_of_block (a:=⟨W.heap.size,0,none⟩) (b.block W.heap.size (by omega) (λe=>by injection e with e;omega))];exact h.box
theorem KD.grow(h:KD W mb hb aw house done p left v w)(a:Below w.heap.size w w'):KD W mb hb aw house done p left v w':=
 ⟨h.rg.bD (a.block _ h.rg.map.lt) (a.block _ h.rg.lt),h.perm,bC h.row (λk e=>a.block k (World.ownsRow.lt h.row k e).2),by rw[a.cell (World.block_lt_of_cell? w _ h.box)];exact h.box,h.below.trans (a.mono h.below.size),fO h.size a.size⟩
theorem KD.skip(h:KD W mb hb aw house done p left v w)(a:(p.2.house==house)=false):S1 W mb hb aw house (done++ [p]) left v w:=
 ⟨h.rg,h.perm,by rw[oN,a];simpa using h.row,h.box,h.below,h.size⟩
theorem KD.len(h:KD W mb hb aw house done p left v w):(j6 done house).length+1<=aw.length:=by
 have a:=h.perm.length_eq;simp only[fu,DT]at a;have b:(j6 done house).length<=done.length:=by unfold j6;rw[rm];exact List.length_filter_le _ _
 omega
theorem KD.add{k:Nat}(h:KD W mb hb aw house done p left v w)(s:(p.2.house==house)=true)(f:w'.ownsRow (W.heap.size+2) 9 1 v' k ((j6 done house).flatMap mW++ [p.1].flatMap mW))(q:k=(j6 done house).length+1)(b:w.grownBy w' v.ownBlock):S1 W mb hb aw house (done++ [p]) left v' w':=by
 have t:=h.size;have hv:∀j,j<W.heap.size+2->some j≠v.ownBlock:=λj o e=>by have:=(World.ownsRow.lt h.row j e.symm).1;omega
 have r:mb≠W.heap.size+1:=λe=>h.rg.ne (by rw[e])
 refine⟨h.rg.bD (b.block _ h.rg.map.lt (λe=> ?_)) (b.block _ h.rg.lt (hv _ (by omega))),h.perm,by rw[oN,s,if_pos rfl,DU,fu];rw[q]at f;exact f, ?_,h.below.trans ⟨b.os,b.tape,b.output,b.size,λj o=>b.block j (by omega) (hv j (by omega))⟩,fO t b.size⟩
 ·obtain⟨x,u,n,_⟩:=h.rg.map;have c:=h.row.2;rcases c with⟨c,_⟩|⟨g,i,l,c,_,d,_⟩
  ·rw[c]at e;cases e
  ·rw[c]at e;have m:mb=g:=by injection e
   rw[<-m,n]at d;cases d
 ·rw[World.cell?_of_block (a:=⟨W.heap.size,0,none⟩) (b.block W.heap.size (by omega) (hv _ (by omega)))];exact h.box
end
abbrev Tk:= {t:ByteArray // qw t}
instance:Inhabited Tk:=⟨⟨⟨#[]⟩,by unfold qw maxLen;exact gu _⟩⟩
theorem Sv(f:ByteArray->Int)(x y:Tk):ltOf (λa b:Tk=>Am f a.1 b.1) x y=true↔xG f x.1 y.1:=by unfold ltOf;rw[uD,Ll]
theorem Tt(f:ByteArray->Int):Sort.SWO (ltOf (λa b:Tk=>Am f a.1 b.1)) where
 irrefl x:=by rw[Bool.eq_false_iff,ne_eq,Sv];exact sU f x.1
 trans x y z h1 h2:=by rw[Sv]at*;exact mI h1 h2
 ntrans x y z h1 h2:=by rw[Bool.eq_false_iff,ne_eq,Sv]at*;exact AY h1 h2
theorem Lz(args:Array Value)(w:World):(callFunc 86 args).run Tryz.prog w= .ok (.enter 86 args) w:=enters_of Tryz.func86 (by kernel_rfl) rfl args w
def Oc(aw:dv)(l:List ByteArray)(v:Value)(W:World)(e:Ending)(w':World):Prop:=
 e= .returned (.tuple #[])/\W.grownBy w' v.ownBlock/\∃A c,v= .slice A l.length c/\SL w' 1 mW A (BF (nL aw) l)
theorem pI.sorted{bx hb mb:Nat}{aw:dv}{W:World}{g off n:Nat}{enc:Tk->Value}{c:Array Tk}{f:Array Obj}{cur:Array Value}{T:TypeId}(h:pI bx hb mb aw W)(m:W.heap[g]? =some (.cells cur T (0,0)))(i:g≠bx)(l:g≠hb):
  pI bx hb mb aw (sortWorld enc W g off n c f):=by
 have k:∀j,j<W.heap.size->j≠g->(sortWorld enc W g off n c f).heap[j]? =W.heap[j]? :=λj o b=>by
  unfold sortWorld;rw[Sort.heap_grow_old _ _ (by simpa[Sort.putRow,Sort.mapBlock,Sort.ahead]using o)];simp[Sort.putRow,Sort.mapBlock,Sort.ahead,vS,nq b]
 have hm:g≠mb:=λe=>by
  obtain⟨r,q,d,_⟩:=h.is;rw[<-e,m]at d;cases d
 exact⟨by rw[World.cell?_of_block (a:=⟨bx,0,none⟩) (k bx (World.block_lt_of_cell? W _ h.box) (nq i))];exact h.box,
  by rw[World.cell?_of_block (a:=⟨hb,8,none⟩) (k hb (World.block_lt_of_cell? W _ h.mp) (nq l))];exact h.mp,
  h.is.bD (k mb h.is.lt (nq hm))⟩
set_option maxHeartbeats 1000000 in
theorem MP(bx hb mb base:Nat)(aw:dv)(l:List ByteArray)(hl:∀t∈l,qw t)(v:Value)(W:World)(h:W.ownsRow base 9 1 v l.length (l.flatMap mW))(hn:l.length<=1000000)(hO:pI bx hb mb aw W)(h1:bx<base)(h2:hb<base):
  Calls Tryz.prog 85 #[v, .func (.func 86) #[] #[.pointer (some ⟨bx,0,none⟩)]] W (Oc aw l v W):=by
 by_cases R:l= []
 ·subst R;obtain⟨A,c,rfl⟩:=fG h;refine(AnyF.slices_SortFunc_none {Tryz.TV with} A c _ W).mono ?_;rintro e w' ⟨rfl,rfl⟩;exact⟨rfl,⟨rfl,rfl,rfl,aL _,λ_ _ _=>rfl⟩,A,c,rfl,SL.nil⟩
 obtain⟨g,B,X,rfl,an,G,bi,hm,ht,_⟩:=Apl.tm (ec:=mW) sC h R;obtain⟨d,J⟩:∃d:List Tk,d.map (·.1)=l:=⟨l.attach.map λx=>⟨x.1,hl x.1 x.2⟩,by rw[PS];exact(List.map_congr_left (λx _=>rfl)).trans (by simp)⟩
 have o:d.length=l.length:=by rw[<-J];simp
 have E:g<W.heap.size:=(iS.1 G).1;have S:Sort.Holds (λx:Tk=>Value.string x.1) W g 0 d.toArray:=by
  intro j s;have q:j<d.length:=by simpa using s
  rw[nW];refine⟨?_,by simp[World.frozen?,G]⟩;have F:(l.flatMap mW)[j]? =some (.string (d[j]).1):=by have H:l.flatMap mW=l.map Value.string:=EU l;rw[H, <-J,PS,mx,eH q];rfl
  rw[<-ht,qC,if_pos (by omega)]at F;have H:d.toArray[j]! =d[j]:=by rw[KN d.toArray j (by simpa using q)];simp
  rw[H];simp only[World.cell?,G];simp only[Option.isSome_none,GA,B6];simpa using F
 have C:=Any.slices_SortFunc Tryz.TV (λx:Tk=>Value.string x.1) (λ_=>rfl) (λa b:Tk=>Am (nL aw) a.1 b.1) (Tt _) 86 #[.pointer (some ⟨bx,0,none⟩)] g 0 B d.toArray W Lz (λm V dk _ x y=>IP bx hb mb aw x.1 y.1 x.2 y.2 _ (hO.sorted G (by omega) (by omega))) S E (by simp;omega);simp only[tY,o]at C;refine C.mono ?_;rintro e w' ⟨rfl,n,m,V,T,hs,rfl⟩;have z:n.size=l.length:=T.1.trans (by simpa using o);have I:=holds_sortWorld (λx:Tk=>Value.string x.1) W g 0 m d.toArray n V E S (by rw[z];simpa using o.symm);refine⟨rfl,⟨rfl,rfl,rfl, ?_,λk hk N=> ?_⟩,some ⟨g,0,none⟩,B,rfl, ?_⟩
 ·unfold sortWorld;simp[Sort.grow,Sort.putRow,Sort.mapBlock,Sort.ahead]
 ·have M:g≠k:=λe=>N (by rw[e];rfl)
  unfold sortWorld;rw[Sort.heap_grow_old _ _ (by simpa[Sort.putRow,Sort.mapBlock,Sort.ahead]using hk)];simp[Sort.putRow,Sort.mapBlock,Sort.ahead,vS,M]
 ·have F:n.toList.map (·.1)=BF (nL aw) l:=by
   refine tL (f:=nL aw) ?_ ?_ (mq _ _)
   ·refine List.Perm.trans ?_ (dY _ _).symm;have r:=T.2.2;have Y:n.extract 0 l.length=n:=by rw[<-z];simp
    have Z:d.toArray.extract 0 l.length=d.toArray:=by rw[<-o];simp
    rw[Y,Z]at r;have h6:=r.map (λx:Tk=>x.1);rw[<-J];simpa using h6
   ·unfold z7;rw[List.pairwise_map,List.pairwise_iff_getElem];intro i j hi s L;have r:=hs i j (gu _) L (by rw[<-z];simpa using s);have K:i<n.size:=by simpa using hi
    have q:j<n.size:=by simpa using s
    rw[KN n i K,KN n j q,Bool.eq_false_iff,ne_eq,Sv]at r;simpa using r
  rw[<-F];refine⟨λ_=>⟨g,0,rfl,λj x s p u P=> ?_⟩⟩;have O:p=0:=by have:=(jS.1 P).1;simp[mW]at this;exact this
  subst O;simp[mW]at P;subst P;rw[mx]at s;obtain⟨y,U,rfl⟩:=Option.map_eq_some_iff.1 s;have D:j<n.size:=by have:=(jS.1 U).1;simpa using this
  have r:=(I j D).1;have Q:n[j]! =y:=by
   rw[KN n j D]
   have:=(jS.1 U).2;simpa using this
  rw[Q]at r;rw[show 0+(j*1+0)=0+j by omega];exact r
end Go.Proofs.YtkmbmfengcdmoaaGreatDoor
