/- The tables of digest and of strconv; decimal numerals; texts of bytes. No condition. Package patch: the closures of Text write a number, and a flag, behind the text so far. Condition: the variable of strconv holds its numbers. Package patch: the text of a patch. Condition: the variable of strconv holds its numbers. Package patch: the text of a patch. Condition: the variable of strconv holds its numbers. Package patch: the text of a patch, whatever its size. Condition: the variable of strconv holds its numbers. Package consent: whether a patch is the zero patch. No condition. Package consent: whether a letter counts. Condition: the variable of strconv holds its numbers. Package consent: the letters of a kind that count. Condition: the variable of strconv holds its numbers. Package consent: the digest of a proposal. Condition: the variables of digest and strconv hold their numbers. -/
import Derived.Test.YtekfoaenomgjgaaGreatDoorZ2
import Derived.Test.YtekfoaenomgjgaaGreatDoorShelf
import Derived.Test.YtekfoaenomgjgaaGreatDoorYA
import Derived.Lib.ItoaLen
import Derived.Lib.ItoaMem
import Derived.Lib.AppendIntMem
import Derived.Deep.QuietTactic
import Derived.BigQuiet
import Derived.Test.YtekfoaenomgjgaaGreatDoorYB
import Derived.Maps.AppendAt
import Derived.Lib.OthersKept
import Derived.ArgAppend
import Derived.Deep.MidRow
import Derived.Lib.SlBytesConst
import Derived.Deep.WholeRow
set_option maxRecDepth 100000
set_option linter.all false
namespace Go.Proofs.YtekfoaenomgjgaaGreatDoor
open Go.RowKit Go.W32 Go.Blk Go.Cs

def KC:List UInt32:= [1116352408,1899447441,3049323471,3921009573,961987163,1508970993,2453635748,2870763221,3624381080,310598401,607225278,1426881987,1925078388,2162078206,2614888103,3248222580,3835390401,4022224774,264347078,604807628,770255983,1249150122,1555081692,1996064986,2554220882,2821834349,2952996808,3210313671,3336571891,3584528711,113926993,338241895,666307205,773529912,1294757372,1396182291,1695183700,1986661051,2177026350,2456956037,2730485921,2820302411,3259730800,3345764771,3516065817,3600352804,4094571909,275423344,430227734,506948616,659060556,883997877,958139571,1322822218,1537002063,1747873779,1955562222,2024104815,2227730452,2361852424,2428436474,2756734187,3204031479,3329325298]
def HasK(w:World):Prop:=∀i,i<64->w.cell? ⟨0,i,none⟩=some (.int .u32 (KC.getD i 0).toNat)
theorem HasK.below{w w':World}{B:Nat}(h:HasK w)(hb:Below B w w')(hB:w.heap.size<=B):HasK w':=fun i hi=>by
 rw[hb.cell (p:=⟨0,i,none⟩) (by have:=World.block_lt_of_cell? w _ (h i hi);omega)];exact h i hi
theorem tab_below{P:Program}{w w':World}{B:Nat}{name:String}{k:IntKind}{zs:List Int}(h:Lib.TabIs P w name k zs)(hb:Below B w w')(hB:w.heap.size<=B):Lib.TabIs P w' name k zs:=by
 unfold Lib.TabIs World.var? at*
 cases hg:P.globalNamed name with
 |none=>simp[hg]at h
 |some g=>
  simp only[hg,Option.bind_some]at h⊢
  have hlt:g<w.heap.size:=by
   rcases Nat.lt_or_ge g w.heap.size with h'|h'
   ·exact h'
   ·rw[Array.getElem?_eq_none h']at h;simp at h
  rw[hb.block g (by omega)]
  exact h
structure HasT (w:World):Prop where
 k:HasK w
 p : Lib.TabIs Tryz.prog w "internal/strconv.uint64pow10" .u64 Lib.pow10Tab
theorem HasT.below{w w':World}{B:Nat}(h:HasT w)(hb:Below B w w')(hB:w.heap.size<=B):HasT w':=⟨h.k.below hb hB,tab_below h.p hb hB⟩
theorem HasT.alloc{w:World}(h:HasT w)(o:Obj):HasT (w.alloc o):=h.below ((Below.refl _ _).alloc (Nat.le_refl _) o) (Nat.le_refl _)
theorem HasT.tab{w : World}(h : HasT w) : Lib.TabBelow Tryz.prog w.heap.size w "internal/strconv.uint64pow10" .u64 Lib.pow10Tab := fun _ hb => tab_below h.p hb (Nat.le_refl _)
def dec(n:Int):ByteArray:=⟨(Lib.itoa n).toArray⟩
theorem dec_size(n:Int)(h0: -9223372036854775808<=n)(h1:n<=9223372036854775807):(dec n).size<=21:=by
 have:=Lib.itoa_length_le n h0 h1
 show(Lib.itoa n).toArray.size<=21
 simpa using this
theorem itoa_any(n:Int)(w:World)(h0: -9223372036854775808<=n)(h1:n<=9223372036854775807)(hT:HasT w):
  Calls Tryz.prog 44 #[.int .i64 n] w fun e w'=>e= .returned (.string (dec n))/\Below w.heap.size w w':=
 (Tryz.strconv_Itoa n h0 h1 w hT.p).mono fun _ _ ⟨he,k,os,hw⟩=>⟨he,by
  subst hw
  exact⟨rfl,rfl,rfl,by simp,fun j hj=>Go.Sort.heap_grow_old _ os hj⟩⟩
def tx(l:List UInt8):ByteArray:=⟨l.toArray⟩
theorem tx_size(l:List UInt8):(tx l).size=l.length:=by show l.toArray.size=_;simp
theorem tx_data(l:List UInt8):(tx l).data.toList=l:=by show l.toArray.toList=l;simp
theorem fC(a b:List UInt8):tx a++tx b=tx (a++b):=by
 show(⟨_⟩:ByteArray)=_
 apply ByteArray.ext
 simp[tx]
theorem ba_size(a b:ByteArray):(a++b).size=a.size+b.size:=by simp
theorem ba_ext{a b:ByteArray}(h:a.data.toList=b.data.toList):a=b:=by
 cases a;cases b;congr 1;exact Array.ext' h
abbrev SD:ByteArray->ByteArray:=sumB KC
abbrev DG:Let->ByteArray:=dig SD
end Go.Proofs.YtekfoaenomgjgaaGreatDoor

namespace Go.Proofs.YtekfoaenomgjgaaGreatDoor
open Go.RowKit Go.W32 Go.Blk Go.Cs Go.Lib
def OutAt(w:World)(B b3:Nat)(xs:List UInt8):Prop:=∃v,w.heap[b3]? =some (.cells #[v] 153 (0,0))/\w.ownsRow B 5 1 v xs.length (byteCells xs)
structure Kp (B b3:Nat) (w w':World):Prop where
 below:Below B w w'
 rest:OthersKept 5 (some b3) w w'
theorem Kp.refl(B b3:Nat)(w:World):Kp B b3 w w:=⟨Below.refl _ _,OthersKept.refl _ _ _⟩
theorem Kp.trans{B b3:Nat}{a b c:World}(h:Kp B b3 a b)(k:Kp B b3 b c):Kp B b3 a c:=⟨h.below.trans k.below,h.rest.trans k.rest⟩
theorem gx{w:World}{B:Nat}{T:TypeId}{sz n:Nat}{v:Value}{xs:List Value}(h:w.ownsRow B T sz v n xs){g:Nat}(hg:v.ownBlock=some g):∃c fz,w.heap[g]? =some (.cells c T fz):=by
 rcases h.2 with⟨rfl,_⟩|⟨g',cap,cur,rfl,_,h2,_⟩
 ·cases hg
 ·injection hg with e;subst e;exact⟨_,_,h2⟩
theorem cY{w w':World}{T:TypeId}{row:Option Nat}(hg:w.grownBy w' row)(hr:∀g,row=some g->∃c fz,w.heap[g]? =some (.cells c T fz))(b:Option Nat):OthersKept T b w w':=fun k o hk _ hne=>by
 have hlt:k<w.heap.size:=(Array.getElem?_eq_some_iff.1 hk).1
 rw[hg.block k hlt (fun e=> ?_)]
 ·exact hk
 ·obtain⟨c,fz,h⟩:=hr k e.symm
  rw[h]at hk
  cases hk
  exact hne c fz rfl
theorem dj(w:World)(o:Obj)(T:TypeId)(b:Option Nat):OthersKept T b w (w.alloc o):=fun k _ hk _ _=>by
 have hlt:k<w.heap.size:=(Array.getElem?_eq_some_iff.1 hk).1
 rw[show(w.alloc o).heap=w.heap.push o from rfl,Array.getElem?_push_lt hlt]
 rw[<-hk,Array.getElem?_eq_getElem hlt]
theorem word_len(n:Int)(h0: -9223372036854775808<=n)(h1:n<=9223372036854775807):(word n).length<=22:=by
 have:=itoa_length_le n h0 h1
 simp only[word,List.length_cons];omega
theorem fH{w:World}{b:Nat}{v u:Value}{T:TypeId}(h:w.heap[b]? =some (.cells #[v] T (0,0))):(w.setCell ⟨b,0,none⟩ u).heap[b]? =some (.cells #[u] T (0,0)):=Apl.set_heap (cur:= #[v]) (k:=0) h
theorem others_set{w:World}{b:Nat}{u:Value}{T:TypeId}:OthersKept T (some b) w (w.setCell ⟨b,0,none⟩ u):=fun k o hk hne _=>by
 have:k≠b:=fun e=>hne (by rw[e])
 simp only[World.setCell,Array.getElem?_modify]
 rw[if_neg (Ne.symm this)];exact hk
theorem fm{w w':World}{T:TypeId}(h:OthersKept T none w w')(b:Option Nat):OthersKept T b w w':=fun k o hk _ hne=>h k o hk (by simp) hne
theorem gi{w w':World}{B:Nat}{v:Value}{n:Nat}{xs:List Value}(h:w.ownsRow B 5 1 v n xs){b:Nat}(hb:∀g,v.ownBlock=some g->g≠b){u:Value}(he:w'=w.setCell ⟨b,0,none⟩ u):w'.ownsRow B 5 1 v n xs:=
 Mg.owns_keep h fun g hg=>by
  subst he
  simp only[World.setCell,Array.getElem?_modify]
  rw[if_neg (Ne.symm (hb g hg))]
theorem aj{w w':World}{B:Nat}{row:Option Nat}(hg:w.grownBy w' row)(hr:∀g,row=some g->B<=g)(hB:B<=w.heap.size):Below B w w':=
 ⟨hg.os,hg.tape,hg.output,hg.size,fun k hk=>hg.block k (by omega) (fun e=>by have:=hr k e.symm;omega)⟩
theorem below_set{w:World}{B b:Nat}{u:Value}(hb:B<=b):Below B w (w.setCell ⟨b,0,none⟩ u):=
 ⟨rfl,rfl,rfl,by simp[World.setCell],fun k hk=>by
  simp only[World.setCell,Array.getElem?_modify]
  rw[if_neg (by omega)]⟩
theorem ft{w:World}{b:Nat}{v:Value}{T:TypeId}(h:w.heap[b]? =some (.cells #[v] T (0,0))):w.frozen? ⟨b,0,none⟩=false:=Apl.row_frozen (cur:= #[v]) h
theorem fq{w:World}{b:Nat}{v:Value}{T:TypeId}(h:w.heap[b]? =some (.cells #[v] T (0,0))):w.cell? ⟨b,0,none⟩=some v:=by simp[World.cell?,h]
theorem fV{w:World}{B:Nat}{T:TypeId}{sz n:Nat}{v:Value}{xs:List Value}(h:w.ownsRow B T sz v n xs):∃A c,v= .slice A n c:=by
 rcases h.2 with⟨rfl,rfl⟩|⟨g,cap,cur,rfl,_⟩
 ·exact⟨_,_,rfl⟩
 ·exact⟨_,_,rfl⟩
theorem cell_grown{w w':World}{p:Addr}{v:Value}(h:w.cell? p=some v)(hg:w.grownBy w' none):w'.cell? p=some v:=by
 have hlt:=World.block_lt_of_cell? w _ h
 rw[<-h]
 simp only[World.cell?,hg.block p.block hlt (by simp)]
theorem infoB:∃i,Tryz.prog.info? 5=some i/\i.zero=some (.int .u8 0)/\i.size=1/\i.bytes=1:=info_parts (by kernel_rfl)
set_option maxHeartbeats 1000000 in
theorem write_any(B b3 : Nat)(n : Int)(xs : List UInt8)(W : World)(h0 : -9223372036854775808 <= n)(h1 : n <= 9223372036854775807)(hO : OutAt W B b3 xs)(hB : B <= W.heap.size)(hBb : B <= b3)(htab : TabBelow Tryz.prog B W "internal/strconv.uint64pow10" .u64 pow10Tab)(hlen : xs.length <= 70368744177664) :
  Calls Tryz.prog 79 #[.int .i64 n, .pointer (some ⟨b3,0,none⟩)] W fun e w'=>e= .returned (.tuple #[])/\OutAt w' B b3 (xs++word n)/\Kp B b3 W w':=by
 obtain⟨v,hc,hrow⟩:=hO
 have hcell:W.cell? ⟨b3,0,none⟩=some v:=fq hc
 have hb3:b3<W.heap.size:=(Array.getElem?_eq_some_iff.1 hc).1
 obtain⟨i0,hi,hz0,hz1,hz2⟩:=infoB
 have hgrow0:W.grownBy (W.alloc (.cells #[.int .u8 32] 5)) none:=World.grownBy_alloc _ _ _
 have hrow1:(W.alloc (.cells #[.int .u8 32] 5)).ownsRow B 5 1 v xs.length (byteCells xs):=hrow.alloc _
 have hsz:(W.alloc (.cells #[.int .u8 32] 5)).heap.size=W.heap.size+1:=by simp
 have hml:xs.length+1<=maxLen:=by have:maxLen=9223372036854775807:=rfl;omega
 have HC:=h_ hc
 clear hc
 go_enter Tryz.func79,Tryz.ntmps79
 go_wp2_with (at_builtin;refine wpList_append_own_at _ rfl (.tmp 3) (.tmp 4) 153 rfl B 5 i0 (.int .u8 0) 1 1 Tryz.underlying153 hi hz0 hz1 hz2 rfl (by decide) v xs.length (byteCells xs) rfl hrow1 ⟨W.heap.size,0,none⟩ 1 1 [.int .u8 32] rfl rfl (cell_one_new _ _ _) (by simp[Value.oneCell']) hml (by omega) (by omega) ?_)
 intro v1 w1 hown1 hg1 hnil1 hat1
 have hbe1:Below B W w1:=((Below.refl B W).alloc hB _).trans (aj hg1 (fun g hg=>(Mg.owns_lt hrow1 hg).1) (by omega))
 have hbe1':B<=w1.heap.size:=Nat.le_trans hB hbe1.size
 have hk1:OthersKept 5 (some b3) W w1:=(dj W _ 5 _).trans (cY hg1 (fun g hg=>gx hrow1 hg) _)
 have hne:∀(u:Value) c fz,Obj.cells #[u] 153 (0,0)≠Obj.cells c 5 fz:=fun u c fz e=>by injection e with _ e;cases e
 have hk1b:w1.heap[b3]? =some (.cells #[v] 153 (0,0)):=((dj W _ 5 none).trans (cY hg1 (fun g hg=>gx hrow1 hg) _)) b3 _ HC.out (by simp) (hne v)
 have CA:=Tryz.strconv_AppendInt_10 B (xs.length+1) n h0 h1 v1 (byteCells xs++ [.int .u8 32]) w1 hown1 hbe1' (by omega) (htab.on hbe1)
 have HK1B:=h_ hk1b
 clear hk1b hown1 hg1 hnil1 hat1 hcell
 go_wp2_with (go_at_call 80;refine CA.mono ?_;rintro e w2 ⟨v2,rfl,hown2,hbe2,hok2⟩;obtain⟨A2,c2,rfl⟩:=fV hown2;have hk2b:=hok2 b3 _ HK1B.out (by simp) (hne v);have hc2:=fq hk2b;have hf2:=ft hk2b)
 go_end0
 have hx:(byteCells xs++ [Value.int .u8 32])++byteCells (itoa n)=byteCells (xs++word n):=by simp[byteCells,word]
 have hl:xs.length+1+(itoa n).length=(xs++word n).length:=by simp[word];omega
 have ho3:=gi (b:=b3) (u:= .slice A2 (xs.length+1+(itoa n).length) c2) hown2 (fun g hg e=>by
  obtain⟨c,fz,hcg⟩:=gx hown2 hg
  rw[e,hk2b]at hcg
  exact hne v c fz (Option.some.inj hcg)) rfl
 refine⟨rfl,⟨_,fH hk2b,by rw[<-hl, <-hx];exact ho3⟩,⟨(hbe1.trans hbe2).trans (below_set hBb),(hk1.trans (fm hok2 _)).trans others_set⟩⟩
theorem gK{w:World}{B B':Nat}{T:TypeId}{sz n:Nat}{v:Value}{xs:List Value}(h:w.ownsRow B T sz v n xs)(hB:B'<=B):w.ownsRow B' T sz v n xs:=by
 rcases h with⟨h0,h1|⟨g,cap,cur,e,hb,rest⟩⟩
 ·exact⟨h0, .inl h1⟩
 ·exact⟨h0, .inr ⟨g,cap,cur,e,Nat.le_trans hB hb,rest⟩⟩
set_option maxHeartbeats 1000000 in
theorem write_first(B b3 g:Nat)(n:Int)(W:World)(h0: -9223372036854775808<=n)(h1:n<=9223372036854775807)(hc:W.heap[b3]? =some (.cells #[.slice (some ⟨g,0,none⟩) 5 5] 153 (0,0)))
  (hp : ∀ j u, (byteCells patchT)[j]? = some u -> W.cell? ⟨g, j, none⟩ = some u) (hB : B <= W.heap.size) (hBb : B <= b3) (htab : TabBelow Tryz.prog B W "internal/strconv.uint64pow10" .u64 pow10Tab) :
  Calls Tryz.prog 79 #[.int .i64 n, .pointer (some ⟨b3,0,none⟩)] W fun e w'=>e= .returned (.tuple #[])/\OutAt w' B b3 (patchT++word n)/\Kp B b3 W w':=by
 have hcell:W.cell? ⟨b3,0,none⟩=some (.slice (some ⟨g,0,none⟩) 5 5):=fq hc
 obtain⟨i0,hi,hz0,hz1,hz2⟩:=infoB
 have hsz:(W.alloc (.cells #[.int .u8 32] 5)).heap.size=W.heap.size+1:=by simp
 have HC:=h_ hc
 have HP:=h_ hp
 clear hc hp
 go_enter Tryz.func79,Tryz.ntmps79
 go_wp2_with (at_builtin;refine wpList_append_grows _ rfl (.tmp 3) (.tmp 4) 153 rfl 5 i0 (.int .u8 0) 1 1 Tryz.underlying153 hi hz0 hz1 hz2 rfl (by decide) (some ⟨g,0,none⟩) 5 5 (byteCells patchT) rfl (fun e=>by cases e) rfl (fun b hb j u hu=>by cases hb;have:=HP.out j u hu;rw[Addr.add_mid,Nat.zero_add];exact cell_grown this (World.grownBy_alloc _ _ _)) ⟨W.heap.size,0,none⟩ 1 1 [.int .u8 32] rfl rfl (cell_one_new _ _ _) (by simp[Value.oneCell']) (by decide) (by decide) (by decide) ?_)
 intro v1 w1 hown0 hg1
 have hown1:=gK (B':=B) hown0 (by omega)
 have hbe1:Below B W w1:=((Below.refl B W).alloc hB _).trans (aj hg1 (fun g hg=>by cases hg) (by omega))
 have hbe1':B<=w1.heap.size:=Nat.le_trans hB hbe1.size
 have hk1:OthersKept 5 none W w1:=(dj W _ 5 none).trans (cY hg1 (fun g hg=>by cases hg) _)
 have hne:∀(u:Value) c fz,Obj.cells #[u] 153 (0,0)≠Obj.cells c 5 fz:=fun u c fz e=>by injection e with _ e;cases e
 have hk1b:w1.heap[b3]? =some (.cells #[.slice (some ⟨g,0,none⟩) 5 5] 153 (0,0)):=hk1 b3 _ HC.out (by simp) (hne _)
 have CA:=Tryz.strconv_AppendInt_10 B (5+1) n h0 h1 v1 (byteCells patchT++ [.int .u8 32]) w1 hown1 hbe1' (by omega) (htab.on hbe1)
 have HK1B:=h_ hk1b
 clear hk1b hown1 hg1 hcell hown0
 go_wp2_with (go_at_call 80;refine CA.mono ?_;rintro e w2 ⟨v2,rfl,hown2,hbe2,hok2⟩;obtain⟨A2,c2,rfl⟩:=fV hown2;have hk2b:=hok2 b3 _ HK1B.out (by simp) (hne _);have hc2:=fq hk2b;have hf2:=ft hk2b)
 go_end0
 have hx:(byteCells patchT++ [Value.int .u8 32])++byteCells (itoa n)=byteCells (patchT++word n):=by simp[byteCells,word]
 have hl:5+1+(itoa n).length=(patchT++word n).length:=by simp[word,patchT];omega
 have ho3:=gi (b:=b3) (u:= .slice A2 (5+1+(itoa n).length) c2) hown2 (fun g hg e=>by
  obtain⟨c,fz,hcg⟩:=gx hown2 hg
  rw[e,hk2b]at hcg
  exact hne _ c fz (Option.some.inj hcg)) rfl
 refine⟨rfl,⟨_,fH hk2b,by rw[<-hl, <-hx];exact ho3⟩,⟨(hbe1.trans hbe2).trans (below_set hBb),((fm hk1 _).trans (fm hok2 _)).trans others_set⟩⟩
theorem flag_any(B b3 b4 : Nat)(x : Bool)(xs : List UInt8)(W : World)(hO : OutAt W B b3 xs)(hB : B <= W.heap.size)(hBb : B <= b3)(htab : TabBelow Tryz.prog B W "internal/strconv.uint64pow10" .u64 pow10Tab)(hlen : xs.length <= 70368744177664)
  (h4:W.heap[b4]? =some (.cells #[.func (.func 79) #[] #[.pointer (some ⟨b3,0,none⟩)]] 155 (0,0))):
  Calls Tryz.prog 81 #[.bool x, .pointer (some ⟨b4,0,none⟩)] W fun e w'=>e= .returned (.tuple #[])/\OutAt w' B b3 (xs++word (b2i x))/\Kp B b3 W w':=by
 have CW:=fun n h0 h1=>write_any B b3 n xs W h0 h1 hO hB hBb htab hlen
 have c4:=fq h4
 clear hO htab
 cases x with
 |true=>
  have C1:=CW 1 (by decide) (by decide)
  clear CW
  go_enter Tryz.func81,Tryz.ntmps81
  go_wp2_with (go_at_call 79;refine C1.mono ?_;rintro e w2 ⟨rfl,ho2,hk2⟩)
  go_end0
  exact⟨rfl,ho2,hk2⟩
 |false=>
  have C1:=CW 0 (by decide) (by decide)
  clear CW
  go_enter Tryz.func81,Tryz.ntmps81
  go_wp2_with (go_at_call 79;refine C1.mono ?_;rintro e w2 ⟨rfl,ho2,hk2⟩)
  go_end0
  exact⟨rfl,ho2,hk2⟩
end Go.Proofs.YtekfoaenomgjgaaGreatDoor

namespace Go.Proofs.YtekfoaenomgjgaaGreatDoor
open Go.RowKit Go.W32 Go.Blk Go.Cs Go.Lib Go.Opn
def Row(w:World)(b:Nat)(T:TypeId)(cs:List Value):Prop:=w.heap[b]? =some (.cells cs.toArray T (0,0))
theorem Row.new(w:World)(T:TypeId)(cs:List Value):Row (w.alloc (.cells cs.toArray T)) w.heap.size T cs:=by
 show(w.heap.push _)[w.heap.size]? =_;simp
theorem Row.at{w:World}{b k:Nat}{T:TypeId}{cs:List Value}{v:Value}(h:Row w b T cs)(hv:cs[k]? =some v):w.cell? ⟨b,k,none⟩=some v:=by
 unfold Row at h
 simp[World.cell?,h,hv]
theorem Row.keep{w w':World}{b:Nat}{T:TypeId}{cs:List Value}(h:Row w b T cs)(hk:w'.heap[b]? =w.heap[b]?):Row w' b T cs:=hk.trans h
theorem Row.below{w w':World}{b B:Nat}{T:TypeId}{cs:List Value}(h:Row w b T cs)(hb:Below B w w')(hB:b<B):Row w' b T cs:=h.keep (hb.block b hB)
theorem Row.lt{w:World}{b:Nat}{T:TypeId}{cs:List Value}(h:Row w b T cs):b<w.heap.size:=(Array.getElem?_eq_some_iff.1 h).1
theorem Row.kept{w w':World}{b B b3:Nat}{T:TypeId}{cs:List Value}(h:Row w b T cs)(hk:Kp B b3 w w')(hT:T≠5)(hb:b≠b3):Row w' b T cs:=
 hk.rest b _ h (by simp;exact hb) (fun c fz e=>by injection e with _ e;exact hT e)
theorem Row.range{w:World}{b o:Nat}{T:TypeId}{cs vs:List Value}(h:Row w b T cs)(hv:∀j v,vs[j]? =some v->cs[o+j]? =some v):w.rangeAt b o vs:=fun j v hj=>h.at (hv j v hj)

theorem set_alloc(w:World)(v u:Value)(T:TypeId):(w.alloc (.cells #[v] T)).setCell ⟨w.heap.size,0,none⟩ u=w.alloc (.cells #[u] T):=by
 have hm:∀(a:Array Obj) (x:Obj) (f:Obj->Obj),(a.push x).modify a.size f=a.push (f x):=by
  intro a x f
  apply Array.ext
  ·simp
  ·intro i h1 h2
   simp only[Array.getElem_modify,Array.getElem_push]
   by_cases h:a.size=i
   ·subst h
    simp
   ·have hi:i<a.size:=by simp at h1;omega
    simp[h,hi]
 show({w with heap:=(w.heap.push (.cells #[v] T)).modify w.heap.size _}:World)= {w with heap:=w.heap.push (.cells #[u] T)}
 rw[hm]
 rfl
theorem store_new(P:Program)(w:World)(v u:Value)(T:TypeId)(hu:u.oneCell'=true):(store ⟨w.heap.size,0,none⟩ u).run P (w.alloc (.cells #[v] T))= .ok () (w.alloc (.cells #[u] T)):=by
 have hb:(w.alloc (.cells #[v] T)).heap[w.heap.size]? =some (.cells #[v] T (0,0)):=by
  show(w.heap.push (.cells #[v] T))[w.heap.size]? =_;simp
 rw[run_store P _ _ _ _ hu,fq hb,ft hb,set_alloc];rfl
theorem dX(a b:List Int):dr (a++b)=dr a++dr b:=by simp[dr]
theorem fy(n:Int):dr [n]=word n:=by simp[dr]
theorem fB:∀l:List Int,(∀n∈l,bn n)->(dr l).length<=22*l.length
 | [],_=>by simp[dr]
 |n::l,h=>by
  have h1:=fB l fun m hm=>h m (by simp[hm])
  have h2:=word_len n (h n (by simp)).1 (h n (by simp)).2
  show(word n++dr l).length<=_
  rw[List.length_append,List.length_cons];omega
structure StW (n0:Nat) (W4:World) (l:List Int) (w:World):Prop where
 kp:Kp (n0+1) (n0+1+1) W4 w
 out:OutAt w (n0+1) (n0+1+1) (patchT++dr l)
 all:∀n∈l,bn n
structure TW (n0:Nat) (W4:World):Prop where
 size:n0+1<=W4.heap.size
 tab : TabBelow Tryz.prog (n0 + 1) W4 "internal/strconv.uint64pow10" .u64 pow10Tab
 fn:Row W4 (n0+1+1+1) 155 [.func (.func 79) #[] #[.pointer (some ⟨n0+1+1,0,none⟩)]]
theorem StW.row{n0:Nat}{W4 w:World}{l:List Int}(h:StW n0 W4 l w){b:Nat}{T:TypeId}{cs:List Value}(hr:Row W4 b T cs)(hT:T≠5)(hb:b≠n0+1+1):Row w b T cs:=hr.kept h.kp hT hb
theorem StW.c4{n0:Nat}{W4 w:World}{l:List Int}(h:StW n0 W4 l w)(hw:TW n0 W4):w.cell? ⟨n0+1+1+1,0,none⟩=some (.func (.func 79) #[] #[.pointer (some ⟨n0+1+1,0,none⟩)]):=
 (h.row hw.fn (by decide) (by omega)).at rfl
theorem OutAt.alloc{w:World}{B b3:Nat}{xs:List UInt8}(h:OutAt w B b3 xs)(o:Obj):OutAt (w.alloc o) B b3 xs:=by
 obtain⟨v,h1,h2⟩:=h
 have hlt:b3<w.heap.size:=(Array.getElem?_eq_some_iff.1 h1).1
 refine⟨v, ?_,h2.alloc _⟩
 rw[show(w.alloc o).heap=w.heap.push o from rfl,Array.getElem?_push_lt hlt, <-h1,Array.getElem?_eq_getElem hlt]
theorem Row.alloc{w:World}{b:Nat}{T:TypeId}{cs:List Value}(h:Row w b T cs)(o:Obj):Row (w.alloc o) b T cs:=by
 unfold Row at*
 have hlt:b<w.heap.size:=(Array.getElem?_eq_some_iff.1 h).1
 rw[show(w.alloc o).heap=w.heap.push o from rfl,Array.getElem?_push_lt hlt, <-h,Array.getElem?_eq_getElem hlt]
theorem StW.alloc{n0:Nat}{W4 w:World}{l:List Int}(h:StW n0 W4 l w)(hw:TW n0 W4)(o:Obj):StW n0 W4 l (w.alloc o):=
 ⟨h.kp.trans ⟨(Below.refl _ _).alloc (Nat.le_trans hw.size h.kp.below.size) o,dj _ _ _ _⟩,h.out.alloc o,h.all⟩
theorem StW.len{n0:Nat}{W4 w:World}{l:List Int}(h:StW n0 W4 l w)(hl:l.length<=1000):(patchT++dr l).length<=70368744177664:=by
 have:=fB l h.all
 rw[List.length_append]
 have:patchT.length=5:=rfl
 omega
theorem StW.write{n0:Nat}{W4 w:World}{l:List Int}(h:StW n0 W4 l w)(hw:TW n0 W4)(n:Int)(hn:bn n)(hl:l.length<=1000):
  Calls Tryz.prog 79 #[.int .i64 n, .pointer (some ⟨n0+1+1,0,none⟩)] w fun e w'=>e= .returned (.tuple #[])/\StW n0 W4 (l++ [n]) w'/\Kp (n0+1) (n0+1+1) w w':=
 (write_any (n0+1) (n0+1+1) n _ w hn.1 hn.2 h.out (Nat.le_trans hw.size h.kp.below.size) (by omega) (hw.tab.on h.kp.below) (h.len hl)).mono fun _ _ ⟨h1,h2,h3⟩=>
  ⟨h1,⟨h.kp.trans h3,by rw[dX,fy, <-List.append_assoc];exact h2,fun m hm=>by
   rcases List.mem_append.1 hm with hm|hm
   ·exact h.all m hm
   ·simp at hm;subst hm;exact hn⟩,h3⟩
theorem b2i_ok(x:Bool):bn (b2i x):=by unfold bn;cases x<;>decide
theorem StW.flag{n0:Nat}{W4 w:World}{l:List Int}(h:StW n0 W4 l w)(hw:TW n0 W4)(x:Bool)(hl:l.length<=1000):
  Calls Tryz.prog 81 #[.bool x, .pointer (some ⟨n0+1+1+1,0,none⟩)] w fun e w'=>e= .returned (.tuple #[])/\StW n0 W4 (l++ [b2i x]) w'/\Kp (n0+1) (n0+1+1) w w':=
 (flag_any (n0+1) (n0+1+1) (n0+1+1+1) x _ w h.out (Nat.le_trans hw.size h.kp.below.size) (by omega) (hw.tab.on h.kp.below) (h.len hl) (h.row hw.fn (by decide) (by omega))).mono fun _ _ ⟨h1,h2,h3⟩=>
  ⟨h1,⟨h.kp.trans h3,by rw[dX,fy, <-List.append_assoc];exact h2,fun m hm=>by
   rcases List.mem_append.1 hm with hm|hm
   ·exact h.all m hm
   ·simp at hm;subst hm;exact b2i_ok x⟩,h3⟩
theorem StW.first{n0:Nat}{W4:World}(hw:TW n0 W4)(n:Int)(hn:bn n)(hc:Row W4 (n0+1+1) 153 [.slice (some ⟨n0+1,0,none⟩) 5 5])(hp:∀j u,(byteCells patchT)[j]? =some u->W4.cell? ⟨n0+1,j,none⟩=some u):
  Calls Tryz.prog 79 #[.int .i64 n, .pointer (some ⟨n0+1+1,0,none⟩)] W4 fun e w'=>e= .returned (.tuple #[])/\StW n0 W4 [n] w':=
 (write_first (n0+1) (n0+1+1) (n0+1) n W4 hn.1 hn.2 hc hp hw.size (by omega) hw.tab).mono fun _ _ ⟨h1,h2,h3⟩=>
  ⟨h1,⟨h3,by rw[fy];exact h2,fun m hm=>by simp at hm;subst hm;exact hn⟩⟩
theorem StW.text{n0:Nat}{W4 w:World}{l:List Int}(h:StW n0 W4 l w):∃v,w.cell? ⟨n0+1+1,0,none⟩=some v/\(∃A n c,v= .slice A n c)/\(convert 153 9 v).run Tryz.prog w= .ok (.string (tx (patchT++dr l))) w:=by
 obtain⟨v,h1,h2⟩:=h.out
 refine⟨v,fq h1, ?_, ?_⟩
 ·obtain⟨A,c,e⟩:=fV h2;exact⟨A,_,c,e⟩
 ·obtain⟨_,⟨_,h0⟩|⟨g,cap,cur,rfl,_,hg,_,_,_,ht⟩⟩:=h2
  ·rw[List.length_append]at h0
   exact absurd h0 (by have:patchT.length=5:=rfl;omega)
  ·refine run_convert_bytes_back (P:=Tryz.prog) w 153 9 5 ⟨g,0,none⟩ cap (patchT++dr l) Tryz.underlying153 Tryz.underlying5 Tryz.underlying9 (fun j hj=> ?_)
   rw[Addr.add_mid,Nat.zero_add,cell_of_row w g j cur 5 (0,0) hg, <-Array.getElem?_toList]
   have:(byteCells (patchT++dr l))[j]? =some (.int .u8 ((patchT++dr l)[j]).toNat):=by rw[byteCells,List.getElem?_map,List.getElem?_eq_getElem hj];rfl
   rw[<-ht,List.getElem?_take]at this
   split at this
   ·exact this
   ·cases this
end Go.Proofs.YtekfoaenomgjgaaGreatDoor

namespace Go.Proofs.YtekfoaenomgjgaaGreatDoor
open Go.RowKit Go.W32 Go.Blk Go.Cs Go.Lib Go.Opn

theorem nums_ok{p:Pat}(h:PatOk p):(∀n∈p.cl,bn n)/\bn p.kind/\bn p.days/\(∀n∈p.new.front,bn n)/\(∀n∈p.new.back,bn n)/\∀s∈p.new.start,bn s.1/\bn s.2:=by
 have h:=h.nums
 simp only[Pat.nums,Cls.nums,List.mem_append,List.mem_cons,List.mem_flatMap]at h
 refine⟨fun n hn=>h n (.inl (.inr hn)),h _ (.inl (.inl (.inl rfl))),h _ (.inl (.inl (.inr (.inl rfl)))),fun n hn=>h n (.inr (.inl (.inl (.inl (.inl hn))))),fun n hn=>h n (.inr (.inl (.inl (.inr hn)))),fun s hs=>⟨h _ (.inr (.inr ⟨s,hs, .inl rfl⟩)),h _ (.inr (.inr ⟨s,hs, .inr (.inl rfl)⟩))⟩⟩
structure StR (n0:Nat) (W4:World) (Rs:List (Nat×TypeId×List Value)) (l:List Int) (w:World):Prop where
 st:StW n0 W4 l w
 rows:∀r∈Rs,r.2.1≠5/\r.1≠n0+1+1/\Row w r.1 r.2.1 r.2.2
variable {n0:Nat} {W4 w:World} {Rs:List (Nat×TypeId×List Value)} {l:List Int}
theorem StR.keep{w':World}{l':List Int}(h:StR n0 W4 Rs l w)(h':StW n0 W4 l' w')(hk:Kp (n0+1) (n0+1+1) w w'):StR n0 W4 Rs l' w':=
 ⟨h',fun r hr=>⟨(h.rows r hr).1,(h.rows r hr).2.1,(h.rows r hr).2.2.kept hk (h.rows r hr).1 (h.rows r hr).2.1⟩⟩
theorem StR.write(h:StR n0 W4 Rs l w)(hw:TW n0 W4)(n:Int)(hn:bn n)(hl:l.length<=1000):
  Calls Tryz.prog 79 #[.int .i64 n, .pointer (some ⟨n0+1+1,0,none⟩)] w fun e w'=>e= .returned (.tuple #[])/\StR n0 W4 Rs (l++ [n]) w':=
 (h.st.write hw n hn hl).mono fun _ _ ⟨h1,h2,h3⟩=>⟨h1,h.keep h2 h3⟩
theorem StR.flag(h:StR n0 W4 Rs l w)(hw:TW n0 W4)(x:Bool)(hl:l.length<=1000):
  Calls Tryz.prog 81 #[.bool x, .pointer (some ⟨n0+1+1+1,0,none⟩)] w fun e w'=>e= .returned (.tuple #[])/\StR n0 W4 Rs (l++ [b2i x]) w':=
 (h.st.flag hw x hl).mono fun _ _ ⟨h1,h2,h3⟩=>⟨h1,h.keep h2 h3⟩
theorem StR.alloc(h:StR n0 W4 Rs l w)(hw:TW n0 W4)(o:Obj):StR n0 W4 Rs l (w.alloc o):=
 ⟨h.st.alloc hw o,fun r hr=>⟨(h.rows r hr).1,(h.rows r hr).2.1,(h.rows r hr).2.2.alloc o⟩⟩
theorem StW.big(h:StW n0 W4 l w):n0+1+1<w.heap.size:=by
 obtain⟨v,h1,_⟩:=h.out
 exact(Array.getElem?_eq_some_iff.1 h1).1
theorem StR.new(h:StR n0 W4 Rs l w)(hw:TW n0 W4)(T:TypeId)(cs:List Value)(hT:T≠5):StR n0 W4 ((w.heap.size,T,cs)::Rs) l (w.alloc (.cells cs.toArray T)):=
 ⟨h.st.alloc hw _,fun r hr=>by
  rcases List.mem_cons.1 hr with rfl|hr
  ·exact⟨hT,by have:=h.st.big;show w.heap.size≠_;omega,Row.new w T cs⟩
  ·exact⟨(h.rows r hr).1,(h.rows r hr).2.1,(h.rows r hr).2.2.alloc _⟩⟩
theorem StR.drop{r:Nat×TypeId×List Value}(h:StR n0 W4 (r::Rs) l w):StR n0 W4 Rs l w:=⟨h.st,fun r' hr=>h.rows r' (by simp[hr])⟩
theorem StR.at(h:StR n0 W4 Rs l w){b k:Nat}{T:TypeId}{cs:List Value}(hr:(b,T,cs)∈Rs){v:Value}(hv:cs[k]? =some v):w.cell? ⟨b,k,none⟩=some v:=(h.rows _ hr).2.2.at hv
theorem StW.old{W:World}(h:StW n0 W4 l w)(hb:Below n0 W W4){q:Addr}(hq:q.block<n0):w.cell? q=W.cell? q:=
 (hb.trans ⟨h.kp.below.os,h.kp.below.tape,h.kp.below.output,Nat.le_trans (Nat.le_refl _) h.kp.below.size,fun j hj=>h.kp.below.block j (by omega)⟩).cell hq
def iv(n:Int):Value:= .int .i64 n
def frontV(k:Cls):List Value:=k.front.map iv
def backV(k:Cls):List Value:=k.back.map iv
theorem map_at{xs:List Int}{k:Nat}(h:k<xs.length):(xs.map iv)[k]? =some (.int .i64 xs[k]):=by
 rw[List.getElem?_map,List.getElem?_eq_getElem h];rfl

set_option maxHeartbeats 4000000 in
theorem text_small(p:Pat)(h:Hd)(W:World)(hT:HasT W)(hp:PatAt W p h)(ho:PatOk p)(hcl:p.cl.length<=400)(hst:p.new.start.length<=8):
  Calls Tryz.prog 46 #[.agg (aw p h).toArray] W fun e w'=>e= .returned (.string (tx (patchT++dr p.nums)))/\Below W.heap.size W w':=by
 obtain⟨okcl,okk,okd,okf,okb,oks⟩:=nums_ok ho
 obtain⟨F,eF⟩:∃F,F=p.new.front:=⟨_,rfl⟩
 obtain⟨G,eG⟩:∃G,G=p.new.back:=⟨_,rfl⟩
 have lF:F.length=6:=by rw[eF];rfl
 have lG:G.length=6:=by rw[eG];rfl
 rw[<-eF]at okf
 rw[<-eG]at okb
 have EF:=h_ eF
 have EG:=h_ eG
 clear eF eG
 obtain⟨cs,ecs⟩:∃cs,cs=aw p h:=⟨_,rfl⟩
 have HR0:Hid (Row (W.alloc (.cells cs.toArray 47)) W.heap.size 47 cs):=h_ (Row.new _ _ _)
 have g0:cs[0]? =some (.int .i64 p.kind):=by rw[ecs];rfl
 have g1:cs[1]? =some (.slice h.A p.cl.length h.c):=by rw[ecs];rfl
 have g6:cs[6]? =some (.slice h.B p.new.start.length h.d):=by rw[ecs];rfl
 have g18:cs[18]? =some (.int .i64 p.days):=by rw[ecs];rfl
 obtain⟨ks,eks⟩:∃ks,ks=fN p.new (.slice h.B p.new.start.length h.d):=⟨_,rfl⟩
 have gm:∀j v,ks[j]? =some v->cs[2+j]? =some v:=fun j v hj=>by
  rw[ecs];rw[eks]at hj
  have:j<16:=(List.getElem?_eq_some_iff.1 hj).1
  match j,this with
  |0,_|1,_|2,_|3,_|4,_|5,_|6,_|7,_|8,_|9,_|10,_|11,_|12,_|13,_|14,_|15,_=>exact hj
 rw[<-ecs]
 have kg:∀(j:Nat) (v:Value),(fN p.new (.slice h.B p.new.start.length h.d))[j]? =some v->ks[j]? =some v:=fun j v hj=>by rw[eks];exact hj
 have KG:=h_ kg
 have HIK:Hid ((Tryz.prog.info? 45).map (·.size)=some ks.length):=by show _=_;rw[eks];kernel_rfl
 have H1K:Hid (ks.toArray.all (·.oneCell')=true):=all_oneCell_toArray (fun v hv=>ga _ _ rfl v (by rw[<-eks];exact hv))
 clear kg
 have HIC:Hid ((Tryz.prog.info? 133).map (·.size)=some 2):=by show _=_;kernel_rfl
 have ECS:=h_ ecs
 have GM:=h_ gm
 have KL:Hid (ks.length=16):=by show _=_;rw[eks];rfl
 clear ecs eks gm
 have c0:=HR0.out.at g0
 have c1:=HR0.out.at g1
 have c6:=HR0.out.at g6
 have k1: ¬((400:Int)<(p.cl.length:Int)):=by omega
 have k2: ¬((8:Int)<(p.new.start.length:Int)):=by omega
 have kc:=fun(C:Array Value) (n c:Nat)=>Lib.run_convert_bytes_const (P:=Tryz.prog) (W.alloc (.cells cs.toArray 47)) 153 5 C n c Tryz.underlying153 Tryz.underlying5
 rw[show(W.alloc (.cells cs.toArray 47)).heap.size=W.heap.size+1 by simp]at kc
 obtain⟨W3,e3⟩:∃W3,W3=((W.alloc (.cells cs.toArray 47)).alloc (.cells #[.int .u8 112, .int .u8 97, .int .u8 116, .int .u8 99, .int .u8 104] 5 (5,6))).alloc (.cells #[.slice (some ⟨W.heap.size+1,0,none⟩) 5 5] 153):=⟨_,rfl⟩
 have z3:W3.heap.size=W.heap.size+1+1+1:=by rw[e3];simp
 obtain⟨W4,e4⟩:∃W4,W4=W3.alloc (.cells #[.func (.func 79) #[] #[.pointer (some ⟨W.heap.size+1+1,0,none⟩)]] 155):=⟨_,rfl⟩
 have hb34:Below W.heap.size W W4:=by
  rw[e4,e3]
  exact((((Below.refl _ _).alloc (Nat.le_refl _) _).alloc (by simp) _).alloc (by simp;omega) _).alloc (by simp;omega) _
 have hr3:Row W3 (W.heap.size+1+1) 153 [.slice (some ⟨W.heap.size+1,0,none⟩) 5 5]:=by
  have:=Row.new ((W.alloc (.cells cs.toArray 47)).alloc (.cells #[.int .u8 112, .int .u8 97, .int .u8 116, .int .u8 99, .int .u8 104] 5 (5,6))) 153 [.slice (some ⟨W.heap.size+1,0,none⟩) 5 5]
  rw[e3]
  simpa using this
 have hr4:Row W4 (W.heap.size+1+1+1) 155 [.func (.func 79) #[] #[.pointer (some ⟨W.heap.size+1+1,0,none⟩)]]:=by
  have:=Row.new W3 155 [.func (.func 79) #[] #[.pointer (some ⟨W.heap.size+1+1,0,none⟩)]]
  rw[z3]at this
  rw[e4];exact this
 have hrP:Row W4 W.heap.size 47 cs:=by
  rw[e4,e3]
  exact((HR0.out.alloc _).alloc _).alloc _
 have hr3':Row W4 (W.heap.size+1+1) 153 [.slice (some ⟨W.heap.size+1,0,none⟩) 5 5]:=by rw[e4];exact hr3.alloc _
 have hlit:∀j u,(byteCells patchT)[j]? =some u->W4.cell? ⟨W.heap.size+1,j,none⟩=some u:=by
  intro j u hu
  have h0:((W.alloc (.cells cs.toArray 47)).alloc (.cells #[.int .u8 112, .int .u8 97, .int .u8 116, .int .u8 99, .int .u8 104] 5 (5,6))).heap[W.heap.size+1]? =some (.cells #[.int .u8 112, .int .u8 97, .int .u8 116, .int .u8 99, .int .u8 104] 5 (5,6)):=by
   have:=(MapKept.heap_alloc (W.alloc (.cells cs.toArray 47)) (.cells #[.int .u8 112, .int .u8 97, .int .u8 116, .int .u8 99, .int .u8 104] 5 (5,6))).1
   rwa[show(W.alloc (.cells cs.toArray 47)).heap.size=W.heap.size+1 by simp]at this
  have h1:W4.heap[W.heap.size+1]? =some (.cells #[.int .u8 112, .int .u8 97, .int .u8 116, .int .u8 99, .int .u8 104] 5 (5,6)):=by
   rw[e4,(MapKept.heap_alloc W3 _).2 _ (by omega),e3,(MapKept.heap_alloc _ _).2 _ (by simp)]
   exact h0
  rw[cell_of_row W4 _ j _ 5 (5,6) h1, <-Array.getElem?_toList]
  exact hu
 have hTW:TW W.heap.size W4:=⟨by have:=hb34.size;rw[e4];simp[z3],fun w' hw'=>by
  have:Below W.heap.size W w':=hb34.trans ⟨hw'.os,hw'.tape,hw'.output,hw'.size,fun k hk=>hw'.block k (by omega)⟩
  exact hT.tab w' this,hr4⟩
 obtain⟨We,eWe⟩:∃We,We=(((W.alloc (.cells cs.toArray 47)).alloc (.cells #[.int .u8 112, .int .u8 97, .int .u8 116, .int .u8 99, .int .u8 104] 5 (5,6))).alloc (.cells #[.slice (some ⟨W.heap.size+1,0,none⟩) 5 5] 153)).alloc (.cells #[.func (.func 79) #[] #[.pointer (some ⟨W.heap.size+1+1,0,none⟩)]] 155):=⟨_,rfl⟩
 have e4e:We=W4:=by rw[eWe,e4,e3]
 have CF:Calls Tryz.prog 79 #[.int .i64 p.kind, .pointer (some ⟨W.heap.size+1+1,0,none⟩)] We fun e w'=>e= .returned (.tuple #[])/\Hid (StW W.heap.size W4 [p.kind] w'):=by
  rw[e4e];exact(StW.first hTW p.kind okk hr3' hlit).mono fun _ _ h=>⟨h.1,h_ h.2⟩
 rw[eWe]at CF
 have stf:=store_new Tryz.prog W3 .nilFunc (.func (.func 79) #[] #[.pointer (some ⟨W.heap.size+1+1,0,none⟩)]) 155 rfl
 rw[z3,e3]at stf
 have HTW:=h_ hTW
 have HRP:=h_ hrP
 have HB4:=h_ hb34
 have ROWS:Hid (∀l w,StW W.heap.size W4 l w->w.cell? ⟨W.heap.size+1+1+1,0,none⟩=some (.func (.func 79) #[] #[.pointer (some ⟨W.heap.size+1+1,0,none⟩)])/\Row w W.heap.size 47 cs):=
  h_ fun l w h=>⟨h.c4 hTW,h.row hrP (by decide) (by omega)⟩
 clear e4 e3 hTW hrP hb34 hr3 hr4 hr3' hlit z3 eWe e4e
 go_enter Tryz.func46,Tryz.ntmps46
 go_wp2_with fail
 refine CF.mono ?_
 rintro e w5 ⟨rfl,HS5⟩
 obtain⟨c45,r5⟩:=ROWS.out _ _ HS5.out
 have c185:=r5.at g18
 clear CF stf kc c0 c1 c6
 go_wp2_with fail
 refine(StW.write HS5.out HTW.out _ okd (by simp)).mono ?_
 rintro e w6 ⟨rfl,hs6,kp6⟩
 have HS6:=h_ hs6
 obtain⟨c46,r6⟩:=ROWS.out _ _ hs6
 have c16:=r6.at g1
 clear hs6 c45 r5
 go_wp2_with fail
 clear kp6 c185
 refine(StW.write HS6.out HTW.out _ (by unfold bn;omega) (by simp)).mono ?_
 rintro e w7 ⟨rfl,hs7,kp7⟩
 have HS7:=h_ hs7
 obtain⟨c47,r7⟩:=ROWS.out _ _ hs7
 have c17:=r7.at g1
 clear hs7 c46 r6
 go_wp2_with fail
 clear kp7 c16
 obtain⟨L3,eL3⟩:∃L3,L3= [p.kind]++ [p.days]++ [(p.cl.length:Int)]:=⟨_,rfl⟩
 have lL3:L3.length=3:=by rw[eL3];rfl
 rw[<-eL3]at HS7
 have EL3:=h_ eL3
 clear eL3
 go_loopw [46] (fun v wr=> ∃k:Nat,v= .int .i64 (k:Int)/\k<=p.cl.length/\StW W.heap.size W4 (L3++p.cl.take k) wr) (fun v _=>(p.cl.length:Int).toNat- (RowKit.intOf v).toNat)
 case atStart=>exact⟨0,rfl,Nat.zero_le _,by rw[List.take_zero,List.append_nil];exact HS7.out⟩
 case round=>
  clear HS7 c47 r7 c17
  obtain⟨k,rfl,hk,hsr⟩:=hrel
  have HSR:=h_ hsr
  obtain⟨c4r,rr⟩:=ROWS.out _ _ hsr
  clear hsr rr
  rcases Nat.lt_or_eq_of_le hk with hkl|hkl
  ·have hkd:(k:Int)<(p.cl.length:Int):=by omega
   have hx:p.cl[k]? =some p.cl[k]:=List.getElem?_eq_getElem hkl
   obtain⟨bA,off,eA,hcell⟩:=hp.cl.at_ hx
   have cx:wr.cell? ⟨bA,off+k,none⟩=some (.int .i64 p.cl[k]):=by
    have:=hcell 0 _ rfl
    rw[Nat.mul_one,Nat.add_zero]at this
    have hb:=World.block_lt_of_cell? W _ this
    rw[((HB4.out.trans ⟨HSR.out.kp.below.os,HSR.out.kp.below.tape,HSR.out.kp.below.output,HSR.out.kp.below.size,fun j hj=>HSR.out.kp.below.block j (by omega)⟩)).cell (p:=⟨bA,off+k,none⟩) hb]
    exact this
   have okx:=okcl _ (List.getElem_mem hkl)
   have htk:Hid ((L3++p.cl.take k)++ [p.cl[k]]=L3++p.cl.take (k+1)):=by
    show _=_
    rw[List.append_assoc, <-List.take_append_getElem hkl]
   obtain⟨x,ex⟩:∃x,x=p.cl[k]:=⟨_,rfl⟩
   rw[<-ex]at cx okx htk
   have hlk:(L3++p.cl.take k).length<=1000:=by simp[lL3];omega
   rw[eA]
   clear hcell hx ex
   go_wp2_with fail
   refine(StW.write HSR.out HTW.out _ okx hlk).mono ?_
   rintro e w8 ⟨rfl,hs8, -⟩
   have HS8:=h_ hs8
   clear hs8 c4r cx
   go_wp2_with fail
   go_roundw
   case rel=>
    go_light
    have key:StW W.heap.size W4 (L3++p.cl.take (k+1)) w8:=by rw[<-htk.out];exact HS8.out
    first|exact⟨k+1,rfl,hkl,key⟩|((repeat apply Exists.intro);exact⟨rfl,hkl,key⟩)
   case measure=>simp[RowKit.intOf];omega
  ·have hkd: ¬((k:Int)<(p.cl.length:Int)):=by omega
   have hsz:Hid (StW W.heap.size W4 (L3++p.cl) wr):=by
    have:=HSR.out
    rw[hkl,List.take_length]at this
    exact this
   obtain⟨c4z,rz⟩:=ROWS.out _ _ hsz.out
   have HMS:=h_ (rz.range GM.out)
   obtain⟨L4,eL4⟩:∃L4,L4=L3++p.cl:=⟨_,rfl⟩
   have lL4:L4.length<=403:=by rw[eL4];simp[lL3];omega
   rw[<-eL4]at hsz
   have EL4:=h_ eL4
   obtain⟨wA,rfl⟩:∃x,x=wr:=⟨_,rfl⟩
   obtain⟨W5,e5⟩:∃W5,W5=wA.alloc (.cells ks.toArray 45):=⟨_,rfl⟩
   have z5:Hid (W5.heap.size=wA.heap.size+1):=by show _=_;rw[e5];simp
   have HS5:Hid (StR W.heap.size W4 [(wA.heap.size,45,ks)] L4 W5):=h_ (by rw[e5];exact StR.new ⟨hsz.out,fun r hr=>by cases hr⟩ HTW.out 45 ks (by decide))
   have hst:=fun(Q:Exit->Act->World->Prop) (ops:Array Oper) (rest:List Oper) (o:Oper) (a:Act) (hgd:o.guard=none) (ho:o.op= .store 45 (.tmp 8) (.tmp 55)) (hx:a.eval (.tmp 8)= .pointer (some ⟨wA.heap.size,0,none⟩)) (hy:a.eval (.tmp 55)= .agg ks.toArray) (old:Array Value) (hold:old.size=ks.toArray.size)=>
    Hk.wpList_store_fresh (P:=Tryz.prog) (ops:=ops) (rest:=rest) (o:=o) (a:=a) (Q:=Q) hgd 45 (.tmp 8) (.tmp 55) ho wA.heap.size ks.toArray hx hy old 45 (w:=wA) rfl (by rw[HIK.out];simp) hold H1K.out
   rw[<-e5]at hst
   have HST:=h_ hst
   have kk0:=HS5.out.at List.mem_cons_self (KG.out 0 _ rfl)
   have kk1:=HS5.out.at List.mem_cons_self (KG.out 1 _ rfl)
   have kk2:=HS5.out.at List.mem_cons_self (KG.out 2 _ rfl)
   have kk3:=HS5.out.at List.mem_cons_self (KG.out 3 _ rfl)
   have kk5:=HS5.out.at List.mem_cons_self (KG.out 5 _ rfl)
   have kk6:=HS5.out.at List.mem_cons_self (KG.out 6 _ rfl)
   have HS6:Hid (StR W.heap.size W4 [(W5.heap.size,3,F.map iv),(wA.heap.size,45,ks)] L4 (W5.alloc (.cells (frontV p.new).toArray 3))):=h_ (by rw[EF.out];exact HS5.out.new HTW.out 3 (frontV p.new) (by decide))
   clear HSR hk hkl eL4 rz c4z e5 hst hsz
   go_wp2_with (first|(with_reducible refine wpList_load_mid rfl 45 (.tmp 54) rfl W.heap.size 2 rfl ks _ HMS.out Tryz.underlying45 rfl HIK.out ?_)|(refine HST.out _ _ _ _ _ rfl rfl rfl rfl _ (by simp[KL.out]) ?_;simp only[Act.put]))
   go_loopw [70] (fun v wra=> ∃k:Nat,v= .int .i64 (k:Int)/\k<=6/\StR W.heap.size W4 [(W5.heap.size,3,F.map iv),(wA.heap.size,45,ks)] (L4++F.take k) wra) (fun v _=>(6:Int).toNat- (RowKit.intOf v).toNat)
   case atStart=>exact⟨0,rfl,Nat.zero_le _,by rw[List.take_zero,List.append_nil];exact HS6.out⟩
   case round=>
    clear HS6
    obtain⟨ka,rfl,hka,hsra⟩:=hrel
    obtain⟨wra,rfl⟩:∃x,x=wr:=⟨_,rfl⟩
    have HSRa:=h_ hsra
    have c4a:=hsra.st.c4 HTW.out
    clear hsra
    rcases Nat.lt_or_eq_of_le hka with hkla|hkla
    ·have hkda:(ka:Int)<6:=by omega
     have cxa:=HSRa.out.at List.mem_cons_self (map_at (show ka<F.length by omega))
     have okxa:=okf _ (List.getElem_mem (show ka<F.length by omega))
     have htka:Hid ((L4++F.take ka)++ [F[ka]]=L4++F.take (ka+1)):=by
      show _=_
      rw[List.append_assoc, <-List.take_append_getElem (show ka<F.length by omega)]
     have hlka:(L4++F.take ka).length<=1000:=by
      rw[List.length_append,List.length_take];omega
     obtain⟨xa,exa⟩:∃x,x=F[ka]:=⟨_,rfl⟩
     rw[<-exa]at cxa okxa htka
     clear exa
     go_wp2_with fail
     refine(StR.write HSRa.out HTW.out _ okxa hlka).mono ?_
     rintro e w8a ⟨rfl,hs8a⟩
     have HS8a:=h_ hs8a
     clear hs8a c4a cxa
     go_wp2_with fail
     go_roundw
     case rel=>
      go_light
      have key:StR W.heap.size W4 [(W5.heap.size,3,F.map iv),(wA.heap.size,45,ks)] (L4++F.take (ka+1)) w8a:=by rw[<-htka.out];exact HS8a.out
      first|exact⟨ka+1,rfl,hkla,key⟩|((repeat apply Exists.intro);exact⟨rfl,hkla,key⟩)
     case measure=>simp[RowKit.intOf];omega
    ·have hkda: ¬((ka:Int)<6):=by omega
     have hsza:StR W.heap.size W4 [(wA.heap.size,45,ks)] (L4++F) wra:=by
      have:=HSRa.out.drop
      rw[hkla,show(6:Nat)=F.length from lF.symm,List.take_length]at this
      exact this
     obtain⟨L5,eL5⟩:∃L5,L5=L4++F:=⟨_,rfl⟩
     have lL5:L5.length<=409:=by rw[eL5,List.length_append];omega
     rw[<-eL5]at hsza
     have EL5:=h_ eL5
     have HSB:=h_ hsza
     have kk7:=hsza.at List.mem_cons_self (KG.out 7 _ rfl)
     clear HSRa hsza hka hkla eL5
     go_wp2_with fail
     refine(StR.flag HSB.out HTW.out _ (by omega)).mono ?_
     rintro e wb ⟨rfl,hsb⟩
     have HSC:=h_ hsb
     have c4b:=hsb.st.c4 HTW.out
     have kk8:=hsb.at List.mem_cons_self (KG.out 8 _ rfl)
     clear hsb c4a kk7
     go_wp2_with fail
     refine(StR.flag HSC.out HTW.out _ (by simp;omega)).mono ?_
     rintro e wc ⟨rfl,hsc⟩
     obtain⟨L6,eL6⟩:∃L6,L6=L5++ [b2i p.new.bus]++ [b2i p.new.fin]:=⟨_,rfl⟩
     have lL6:L6.length<=411:=by rw[eL6];simp;omega
     rw[<-eL6]at hsc
     have EL6:=h_ eL6
     have HSD:=h_ hsc
     have c4c:=hsc.st.c4 HTW.out
     have kk9:=hsc.at List.mem_cons_self (KG.out 9 _ rfl)
     have kk10:=hsc.at List.mem_cons_self (KG.out 10 _ rfl)
     have kk11:=hsc.at List.mem_cons_self (KG.out 11 _ rfl)
     have kk12:=hsc.at List.mem_cons_self (KG.out 12 _ rfl)
     have kk13:=hsc.at List.mem_cons_self (KG.out 13 _ rfl)
     have kk14:=hsc.at List.mem_cons_self (KG.out 14 _ rfl)
     have HSE:Hid (StR W.heap.size W4 [(wc.heap.size,3,G.map iv),(wA.heap.size,45,ks)] L6 (wc.alloc (.cells (backV p.new).toArray 3))):=h_ (by rw[EG.out];exact hsc.new HTW.out 3 (backV p.new) (by decide))
     clear hsc c4b kk8 eL6 HSB HSC
     go_wp2_with fail
     go_loopw [102] (fun v wrd=> ∃k:Nat,v= .int .i64 (k:Int)/\k<=6/\StR W.heap.size W4 [(wc.heap.size,3,G.map iv),(wA.heap.size,45,ks)] (L6++G.take k) wrd) (fun v _=>(6:Int).toNat- (RowKit.intOf v).toNat)
     case atStart=>exact⟨0,rfl,Nat.zero_le _,by rw[List.take_zero,List.append_nil];exact HSE.out⟩
     case round=>
      clear HSE
      obtain⟨kd,rfl,hkd,hsrd⟩:=hrel
      obtain⟨wrd,rfl⟩:∃x,x=wr:=⟨_,rfl⟩
      have HSRd:=h_ hsrd
      have c4d:=hsrd.st.c4 HTW.out
      clear hsrd
      rcases Nat.lt_or_eq_of_le hkd with hkld|hkld
      ·have hkdd:(kd:Int)<6:=by omega
       have cxd:=HSRd.out.at List.mem_cons_self (map_at (show kd<G.length by omega))
       have okxd:=okb _ (List.getElem_mem (show kd<G.length by omega))
       have htkd:Hid ((L6++G.take kd)++ [G[kd]]=L6++G.take (kd+1)):=by
        show _=_
        rw[List.append_assoc, <-List.take_append_getElem (show kd<G.length by omega)]
       have hlkd:(L6++G.take kd).length<=1000:=by
        rw[List.length_append,List.length_take];omega
       obtain⟨xd,exd⟩:∃x,x=G[kd]:=⟨_,rfl⟩
       rw[<-exd]at cxd okxd htkd
       clear exd
       go_wp2_with fail
       refine(StR.write HSRd.out HTW.out _ okxd hlkd).mono ?_
       rintro e w8d ⟨rfl,hs8d⟩
       have HS8d:=h_ hs8d
       clear hs8d c4d cxd
       go_wp2_with fail
       go_roundw
       case rel=>
        go_light
        have key:StR W.heap.size W4 [(wc.heap.size,3,G.map iv),(wA.heap.size,45,ks)] (L6++G.take (kd+1)) w8d:=by rw[<-htkd.out];exact HS8d.out
        first|exact⟨kd+1,rfl,hkld,key⟩|((repeat apply Exists.intro);exact⟨rfl,hkld,key⟩)
       case measure=>simp[RowKit.intOf];omega
      ·have hkdd: ¬((kd:Int)<6):=by omega
       have hszd:StR W.heap.size W4 [(wA.heap.size,45,ks)] (L6++G) wrd:=by
        have:=HSRd.out.drop
        rw[hkld,show(6:Nat)=G.length from lG.symm,List.take_length]at this
        exact this
       obtain⟨L7,eL7⟩:∃L7,L7=L6++G:=⟨_,rfl⟩
       have lL7:L7.length<=417:=by rw[eL7,List.length_append];omega
       rw[<-eL7]at hszd
       have EL7:=h_ eL7
       have HSF:=h_ hszd
       have kk15:=hszd.at List.mem_cons_self (KG.out 15 _ rfl)
       clear HSRd hszd hkd hkld eL7
       go_wp2_with fail
       refine(StR.flag HSF.out HTW.out _ (by omega)).mono ?_
       rintro e we ⟨rfl,hse⟩
       have HSG:=h_ hse
       have c4e:=hse.st.c4 HTW.out
       have kk4:=hse.at List.mem_cons_self (KG.out 4 _ rfl)
       clear hse c4d kk15 HSF
       go_wp2_with fail
       refine(StR.write HSG.out HTW.out _ (by unfold bn;omega) (by simp;omega)).mono ?_
       rintro e wf ⟨rfl,hsf⟩
       obtain⟨L8,eL8⟩:∃L8,L8=L7++ [b2i p.new.waived]++ [(p.new.start.length:Int)]:=⟨_,rfl⟩
       have lL8:L8.length<=419:=by rw[eL8];simp;omega
       rw[<-eL8]at hsf
       have EL8:=h_ eL8
       have HSH:=h_ hsf
       have c4f:=hsf.st.c4 HTW.out
       have kk4f:=hsf.at List.mem_cons_self (KG.out 4 _ rfl)
       clear hsf c4e kk4 eL8 HSG
       go_wp2_with fail
       go_loopw [122] (fun v wr=> ∃k:Nat,v= .int .i64 (k:Int)/\k<=p.new.start.length/\StR W.heap.size W4 [(wA.heap.size,45,ks)] (L8++(p.new.start.take k).flatMap (fun s=> [s.1,s.2])) wr) (fun v _=>(p.new.start.length:Int).toNat- (RowKit.intOf v).toNat)
       case atStart=>exact⟨0,rfl,Nat.zero_le _,by rw[List.take_zero,List.flatMap_nil,List.append_nil];exact HSH.out⟩
       case round=>
        clear HSH
        obtain⟨kg,rfl,hkg,hsrg⟩:=hrel
        obtain⟨wrg,rfl⟩:∃x,x=wr:=⟨_,rfl⟩
        have HSRg:=h_ hsrg
        have c4g:=hsrg.st.c4 HTW.out
        clear hsrg
        rcases Nat.lt_or_eq_of_le hkg with hklg|hklg
        ·have hkdg:(kg:Int)<(p.new.start.length:Int):=by omega
         have hx:p.new.start[kg]? =some p.new.start[kg]:=List.getElem?_eq_getElem hklg
         obtain⟨bB,off,eB,hcell⟩:=hp.st.at_ hx
         have cx0:wrg.cell? ⟨bB,off+kg*2,none⟩=some (.int .i64 p.new.start[kg].1):=by
          have:=hcell 0 _ rfl
          rw[Nat.add_zero]at this
          rw[HSRg.out.st.old HB4.out (World.block_lt_of_cell? W _ this)]
          exact this
         have cx1:wrg.cell? ⟨bB,off+kg*2+1,none⟩=some (.int .i64 p.new.start[kg].2):=by
          have:=hcell 1 _ rfl
          rw[<-Nat.add_assoc]at this
          rw[HSRg.out.st.old HB4.out (World.block_lt_of_cell? W _ this)]
          exact this
         have okx:=oks _ (List.getElem_mem hklg)
         have htk:Hid ((L8++(p.new.start.take kg).flatMap (fun s=> [s.1,s.2]))++ [p.new.start[kg].1]++ [p.new.start[kg].2]=L8++(p.new.start.take (kg+1)).flatMap (fun s=> [s.1,s.2])):=by
          show _=_
          rw[<-List.take_append_getElem hklg,List.flatMap_append]
          simp
         have hlk:(L8++(p.new.start.take kg).flatMap (fun s=> [s.1,s.2])).length<=900:=by
          have hl:∀l:List (Int×Int),(l.flatMap (fun s=> [s.1,s.2])).length=2*l.length:=fun l=>by
           induction l with
           |nil=>rfl
           |cons x l ih=>rw[List.flatMap_cons,List.length_append,ih];simp;omega
          rw[List.length_append,hl,List.length_take];omega
         obtain⟨LG,eLG⟩:∃LG,LG=L8++(p.new.start.take kg).flatMap (fun s=> [s.1,s.2]):=⟨_,rfl⟩
         rw[<-eLG]at hlk htk HSRg
         obtain⟨x0,ex0⟩:∃x,x=p.new.start[kg].1:=⟨_,rfl⟩
         obtain⟨x1,ex1⟩:∃x,x=p.new.start[kg].2:=⟨_,rfl⟩
         rw[<-ex0]at cx0 okx htk
         rw[<-ex1]at cx1 okx htk
         obtain⟨W7,e7⟩:∃W7,W7=wrg.alloc (.cells #[.int .i64 x0, .int .i64 x1] 133):=⟨_,rfl⟩
         have HS7:Hid (StR W.heap.size W4 [(wrg.heap.size,133,[.int .i64 x0, .int .i64 x1]),(wA.heap.size,45,ks)] LG W7):=h_ (by rw[e7];exact HSRg.out.new HTW.out 133 [.int .i64 x0, .int .i64 x1] (by decide))
         have hst7:=fun(Q:Exit->Act->World->Prop) (ops:Array Oper) (rest:List Oper) (o:Oper) (a:Act) (hgd:o.guard=none) (ho:o.op= .store 133 (.tmp 14) (.tmp 125)) (hx:a.eval (.tmp 14)= .pointer (some ⟨wrg.heap.size,0,none⟩)) (hy:a.eval (.tmp 125)= .agg #[.int .i64 x0, .int .i64 x1]) (old:Array Value) (hold:old.size=2)=>
          Hk.wpList_store_fresh (P:=Tryz.prog) (ops:=ops) (rest:=rest) (o:=o) (a:=a) (Q:=Q) hgd 133 (.tmp 14) (.tmp 125) ho wrg.heap.size #[.int .i64 x0, .int .i64 x1] hx hy old 133 (w:=wrg) rfl HIC.out hold (by simp[Value.oneCell'])
         rw[<-e7]at hst7
         have HST7:=h_ hst7
         have d0:=HS7.out.at List.mem_cons_self (k:=0) rfl
         have c47:=HS7.out.st.c4 HTW.out
         rw[eB]
         clear hcell hx ex0 ex1 eLG e7 hst7 HSRg
         go_wp2_with (refine HST7.out _ _ _ _ _ rfl rfl rfl rfl _ rfl ?_;simp only[Act.put])
         refine(StR.write HS7.out HTW.out _ okx.1 (by omega)).mono ?_
         rintro e w8g ⟨rfl,hs8g⟩
         have HS8:=h_ hs8g
         have d1:=hs8g.at List.mem_cons_self (k:=1) rfl
         have c48:=hs8g.st.c4 HTW.out
         clear hs8g d0 c47 c4g cx0 cx1
         go_wp2_with fail
         refine(StR.write HS8.out HTW.out _ okx.2 (by simp;omega)).mono ?_
         rintro e w9g ⟨rfl,hs9g⟩
         have HS9:=h_ hs9g
         clear hs9g d1 c48 HS8 HS7
         go_wp2_with fail
         go_roundw
         case rel=>
          go_light
          have key:StR W.heap.size W4 [(wA.heap.size,45,ks)] (L8++(p.new.start.take (kg+1)).flatMap (fun s=> [s.1,s.2])) w9g:=by rw[<-htk.out];exact HS9.out.drop
          first|exact⟨kg+1,rfl,hklg,key⟩|((repeat apply Exists.intro);exact⟨rfl,hklg,key⟩)
         case measure=>simp[RowKit.intOf];omega
        ·have hkdg: ¬((kg:Int)<(p.new.start.length:Int)):=by omega
         obtain⟨vT,cT,⟨AT,nT,capT,eT⟩,convT⟩:=HSRg.out.st.text
         have hL:Hid (L8++(p.new.start.take kg).flatMap (fun s=> [s.1,s.2])=p.nums):=by
          show _=_
          rw[hklg,List.take_length,EL8.out,EL7.out,EL6.out,EL5.out,EL4.out,EL3.out,EF.out,EG.out]
          simp[Pat.nums,Cls.nums]
         have hB:Hid (Below W.heap.size W wrg):=h_ (HB4.out.trans ⟨HSRg.out.st.kp.below.os,HSRg.out.st.kp.below.tape,HSRg.out.st.kp.below.output,HSRg.out.st.kp.below.size,fun j hj=>HSRg.out.st.kp.below.block j (by omega)⟩)
         rw[hL.out]at convT
         subst eT
         obtain⟨res,eres⟩:∃res,res=tx (patchT++dr p.nums):=⟨_,rfl⟩
         rw[<-eres]at convT
         have ERES:=h_ eres
         clear HSRg hkg hklg c4g eres
         go_wp2_with fail
         all_goals go_ret
         all_goals exact⟨by rw[ERES.out];rfl,hB.out⟩
end Go.Proofs.YtekfoaenomgjgaaGreatDoor

namespace Go.Proofs.YtekfoaenomgjgaaGreatDoor
open Go.RowKit Go.W32 Go.Blk Go.Cs Go.Lib Go.Opn

theorem text_big(p:Pat)(h:Hd)(W:World)(hs:p.small=false):
  Calls Tryz.prog 46 #[.agg (aw p h).toArray] W fun e w'=>e= .returned (.string (tx []))/\Below W.heap.size W w':=by
 obtain⟨cs,ecs⟩:∃cs,cs=aw p h:=⟨_,rfl⟩
 have HR0:Hid (Row (W.alloc (.cells cs.toArray 47)) W.heap.size 47 cs):=h_ (Row.new _ _ _)
 have g1:cs[1]? =some (.slice h.A p.cl.length h.c):=by rw[ecs];rfl
 have g6:cs[6]? =some (.slice h.B p.new.start.length h.d):=by rw[ecs];rfl
 rw[<-ecs]
 clear ecs
 have c1:=HR0.out.at g1
 have c6:=HR0.out.at g6
 have hb:Hid (Below W.heap.size W (W.alloc (.cells cs.toArray 47))):=h_ ((Below.refl _ _).alloc (Nat.le_refl _) _)
 unfold Pat.small at hs
 rw[Bool.and_eq_false_iff,decide_eq_false_iff_not,decide_eq_false_iff_not]at hs
 clear HR0 g1 g6
 by_cases h1:p.cl.length<=400
 ·have k1: ¬((400:Int)<(p.cl.length:Int)):=by omega
  have k2:(8:Int)<(p.new.start.length:Int):=by rcases hs with hs|hs<;>omega
  clear hs h1
  go_enter Tryz.func46,Tryz.ntmps46
  go_wp2_with fail
  all_goals go_ret
  all_goals exact⟨rfl,hb.out⟩
 ·have k1:(400:Int)<(p.cl.length:Int):=by omega
  clear hs h1 c6
  go_enter Tryz.func46,Tryz.ntmps46
  go_wp2_with fail
  all_goals go_ret
  all_goals exact⟨rfl,hb.out⟩
theorem text_any(p:Pat)(h:Hd)(W:World)(hT:HasT W)(hp:PatAt W p h)(ho:PatOk p):
  Calls Tryz.prog 46 #[.agg (aw p h).toArray] W fun e w'=>e= .returned (.string (tx p.text))/\Below W.heap.size W w':=by
 unfold Pat.text
 cases hs:p.small with
 |true=>
  have h:=hs
  unfold Pat.small at h
  rw[Bool.and_eq_true,decide_eq_true_eq,decide_eq_true_eq]at h
  exact text_small p _ W hT hp ho h.1 h.2
 |false=>exact text_big p _ W hs
end Go.Proofs.YtekfoaenomgjgaaGreatDoor

namespace Go.Proofs.YtekfoaenomgjgaaGreatDoor
open Go.RowKit Go.W32 Go.Blk Go.Cs Go.Lib Go.Opn
def allB:List Bool->Bool
 | []=>true
 |b::l=>if b then allB l else false
def zeroL(p:Pat):List Bool:=
 [p.kind==0,(p.cl.length:Int)==0,p.days==0,p.new.kind==0,p.new.role==0,p.new.act==0,p.new.need==0,(p.new.start.length:Int)==0,p.new.after==0,p.new.grace==0, !p.new.bus, !p.new.fin,p.new.pause==0,p.new.resume==0,p.new.num==0&&p.new.den==0,p.new.unit==0,p.new.to==0, !p.new.waived]
theorem allB_iff:∀l:List Bool,allB l=true↔ ∀b∈l,b=true
 | []=>by simp[allB]
 |b::l=>by rw[allB];cases b<;>simp[allB_iff l]
theorem allB_nil:allB []=true:=rfl
theorem allB_cons(b:Bool)(l:List Bool):allB (b::l)=(b&&allB l):=by cases b<;>rfl
theorem len_zero{α:Type}(l:List α):((l.length:Int)==0)=true↔l= []:=by
 cases l
 ·simp
 ·simp only[List.length_cons,beq_iff_eq]
  constructor
  ·intro h;omega
  ·intro h;cases h
theorem zeroL_ok(p:Pat):p.same Pat.zero=allB (zeroL p):=by
 rw[Bool.eq_iff_iff,Pat.same_iff,allB_iff]
 simp only[zeroL,List.mem_cons,List.not_mem_nil,or_false,forall_eq_or_imp,forall_eq,len_zero,Bool.and_eq_true]
 cases p with
 |mk kind cl new days=>
  cases new
  simp only[Pat.zero,Cls.zero,Pat.mk.injEq,Cls.mk.injEq,beq_iff_eq,Bool.not_eq_true']
  constructor
  ·rintro⟨rfl,rfl,⟨rfl,rfl,rfl,rfl,rfl,rfl,rfl,rfl,rfl,rfl,rfl,rfl,rfl,rfl,rfl,rfl⟩,rfl⟩
   simp
  ·rintro⟨h1,h2,h3,h4,h5,h6,h7,h8,h9,h10,h11,h12,h13,h14,⟨h15,h16⟩,h17,h18,h19⟩
   simp[*]
set_option maxHeartbeats 4000000 in
theorem blank_any(p:Pat)(h:Hd)(W:World):
  Calls Tryz.prog 110 #[.agg (aw p h).toArray] W fun e w'=>e= .returned (.bool (p.same Pat.zero))/\Below W.heap.size W w':=by
 obtain⟨R,eR⟩:∃R,R=allB (zeroL p):=⟨_,rfl⟩
 rw[zeroL_ok, <-eR]
 obtain⟨cs,ecs⟩:∃cs,cs=aw p h:=⟨_,rfl⟩
 have HR0:Hid (Row (W.alloc (.cells cs.toArray 47)) W.heap.size 47 cs):=h_ (Row.new _ _ _)
 have g0:cs[0]? =some (.int .i64 p.kind):=by rw[ecs];rfl
 have g1:cs[1]? =some (.slice h.A p.cl.length h.c):=by rw[ecs];rfl
 have g18:cs[18]? =some (.int .i64 p.days):=by rw[ecs];rfl
 obtain⟨ks,eks⟩:∃ks,ks=fN p.new (.slice h.B p.new.start.length h.d):=⟨_,rfl⟩
 have gm:∀j v,ks[j]? =some v->cs[2+j]? =some v:=fun j v hj=>by
  rw[ecs];rw[eks]at hj
  have:j<16:=(List.getElem?_eq_some_iff.1 hj).1
  match j,this with
  |0,_|1,_|2,_|3,_|4,_|5,_|6,_|7,_|8,_|9,_|10,_|11,_|12,_|13,_|14,_|15,_=>exact hj
 rw[<-ecs]
 have HIK:Hid ((Tryz.prog.info? 45).map (·.size)=some ks.length):=by show _=_;rw[eks];kernel_rfl
 have H1K:Hid (ks.toArray.all (·.oneCell')=true):=all_oneCell_toArray (fun v hv=>ga _ _ rfl v (by rw[<-eks];exact hv))
 have KL:Hid (ks.length=16):=by show _=_;rw[eks];rfl
 have HMS:=h_ (HR0.out.range gm)
 have c0:=(HR0.out.alloc (.cells ks.toArray 45)).at g0
 have c1:=(HR0.out.alloc (.cells ks.toArray 45)).at g1
 have c18:=(HR0.out.alloc (.cells ks.toArray 45)).at g18
 have HRK:=Row.new (W.alloc (.cells cs.toArray 47)) 45 ks
 have hbl:Hid (Below W.heap.size W ((W.alloc (.cells cs.toArray 47)).alloc (.cells ks.toArray 45))):=h_ (((Below.refl _ _).alloc (Nat.le_refl _) _).alloc (by simp) _)
 have hst:=fun(Q:Exit->Act->World->Prop) (ops:Array Oper) (rest:List Oper) (o:Oper) (a:Act) (hgd:o.guard=none) (ho:o.op= .store 45 (.tmp 3) (.tmp 5)) (hx:a.eval (.tmp 3)= .pointer (some ⟨W.heap.size+1,0,none⟩)) (hy:a.eval (.tmp 5)= .agg ks.toArray) (old:Array Value) (hold:old.size=ks.toArray.size)=>
  Hk.wpList_store_fresh (P:=Tryz.prog) (ops:=ops) (rest:=rest) (o:=o) (a:=a) (Q:=Q) hgd 45 (.tmp 3) (.tmp 5) ho (W.heap.size+1) ks.toArray hx hy old 45 (w:=W.alloc (.cells cs.toArray 47)) (by simp) (by rw[HIK.out];simp) hold H1K.out
 rw[show(W.alloc (.cells cs.toArray 47)).heap.size=W.heap.size+1 by simp]at HRK
 obtain⟨W2,eW2⟩:∃W2,W2=(W.alloc (.cells cs.toArray 47)).alloc (.cells ks.toArray 45):=⟨_,rfl⟩
 rw[<-eW2]at c0 c1 c18 HRK hst hbl
 have kk0:=HRK.at (show ks[0]? =some (.int .i64 p.new.kind) by rw[eks];rfl)
 have kk1:=HRK.at (show ks[1]? =some (.int .i64 p.new.role) by rw[eks];rfl)
 have kk2:=HRK.at (show ks[2]? =some (.int .i64 p.new.act) by rw[eks];rfl)
 have kk3:=HRK.at (show ks[3]? =some (.int .i64 p.new.need) by rw[eks];rfl)
 have kk4:=HRK.at (show ks[4]? =some (.slice h.B p.new.start.length h.d) by rw[eks];rfl)
 have kk5:=HRK.at (show ks[5]? =some (.int .i64 p.new.after) by rw[eks];rfl)
 have kk6:=HRK.at (show ks[6]? =some (.int .i64 p.new.grace) by rw[eks];rfl)
 have kk7:=HRK.at (show ks[7]? =some (.bool p.new.bus) by rw[eks];rfl)
 have kk8:=HRK.at (show ks[8]? =some (.bool p.new.fin) by rw[eks];rfl)
 have kk9:=HRK.at (show ks[9]? =some (.int .i64 p.new.pause) by rw[eks];rfl)
 have kk10:=HRK.at (show ks[10]? =some (.int .i64 p.new.resume) by rw[eks];rfl)
 have kk11:=HRK.at (show ks[11]? =some (.int .i64 p.new.num) by rw[eks];rfl)
 have kk12:=HRK.at (show ks[12]? =some (.int .i64 p.new.den) by rw[eks];rfl)
 have kk13:=HRK.at (show ks[13]? =some (.int .i64 p.new.unit) by rw[eks];rfl)
 have kk14:=HRK.at (show ks[14]? =some (.int .i64 p.new.to) by rw[eks];rfl)
 have kk15:=HRK.at (show ks[15]? =some (.bool p.new.waived) by rw[eks];rfl)
 have ER:=h_ eR
 have HST:=h_ hst
 clear eR ecs eks gm g0 g1 g18 HR0 HRK eW2 hst
 go_enter Tryz.func110,Tryz.ntmps110
 repeat (first|(with_reducible refine wpList_load_mid rfl 45 (.tmp 4) rfl W.heap.size 2 rfl ks _ HMS.out Tryz.underlying45 rfl HIK.out ?_)|(refine HST.out _ _ _ _ _ rfl rfl rfl rfl _ (by simp[KL.out]) ?_;simp only[Act.put])|(refine Grd.chk ?_;first|(apply Grd.and3;(case hj=>kernel_rfl);(case ht=>(simp only[List.getElem?_toArray,List.getElem?_cons_succ,List.getElem?_cons_zero];rfl));(case e1=>(go_simp<;>first|rfl|exact(Bool.not_not _).symm|exact Grd.ifs2 _ _ _));(case e2=>(go_simp<;>first|rfl|exact(Bool.not_not _).symm|exact Grd.ifs2 _ _ _));(case e3=>(go_simp<;>first|rfl|exact(Bool.not_not _).symm|exact Grd.ifs2 _ _ _));(case n1=>decide);(case n2=>decide);(case n3=>decide);(case hsz=>simp);intro u1 u2 u3 C hC;simp only[Pt])|(apply Grd.and4;(case hj=>kernel_rfl);(case ht=>(simp only[List.getElem?_toArray,List.getElem?_cons_succ,List.getElem?_cons_zero];rfl));(case e1=>(go_simp<;>first|rfl|exact(Bool.not_not _).symm|exact Grd.ifs2 _ _ _));(case e2=>(go_simp<;>first|rfl|exact(Bool.not_not _).symm|exact Grd.ifs2 _ _ _));(case e3=>(go_simp<;>first|rfl|exact(Bool.not_not _).symm|exact Grd.ifs2 _ _ _));(case e4=>(go_simp<;>first|rfl|exact(Bool.not_not _).symm|exact Grd.ifs2 _ _ _));(case n1=>decide);(case n2=>decide);(case n3=>decide);(case n4=>decide);(case hsz=>simp);intro u1 u2 u3 u4 C hC;simp only[Pt]))|go_skip|go_guarded|go_step|go_upon)
 all_goals go_ret
 all_goals refine⟨?_,hbl.out⟩
 all_goals refine congrArg (fun b=>Ending.returned (.bool b)) ?_
 all_goals clear HST HMS HIK H1K KL hbl
 all_goals simp only[RowKit.Hid]at*
 all_goals subst_vars
 all_goals simp only[zeroL,allB_cons,allB_nil,Bool.and_true,Bool.and_assoc]
end Go.Proofs.YtekfoaenomgjgaaGreatDoor

namespace Go.Proofs.YtekfoaenomgjgaaGreatDoor
open Go.RowKit Go.W32 Go.Blk Go.Cs Go.Lib Go.Opn

theorem let_at{r:Rl}{j:Nat}{v:Value}(h:(aw r.1.patch r.2)[j]? =some v):(ay r)[5+j]? =some v:=by
 have hj:j<19:=(List.getElem?_eq_some_iff.1 h).1
 unfold ay
 rw[List.getElem?_append_left (by simp[fZ];omega),List.getElem?_append_right (by simp)]
 simpa using h
theorem base_chain{x:Let}{C1 C2 C3 C4 C:Bool}(h1:Hid (C1=(decide (x.party<0)||decide (12<=x.party))))(h2:Hid (C2=(C1||decide (x.number<1))))(h3:Hid (C3=(C2||decide (1000000<x.number))))(h4:Hid (C4=(C3||decide (x.sent<0))))
  (h:Hid (C=(C4||decide (2000<x.sent)))):C= !x.base:=by
 rw[h.out,h4.out,h3.out,h2.out,h1.out]
 unfold Let.base
 rw[Bool.eq_iff_iff]
 simp only[Bool.or_eq_true,decide_eq_true_eq,Bool.not_eq_true',decide_eq_false_iff_not]
 omega
theorem formed_base{x:Let}(h:x.base=false):x.formed=false:=by unfold Let.formed;rw[h];rfl
theorem formed_eq{x:Let}(h:x.base=true):x.formed=(if x.kind=1 then decide (0<=x.day/\x.day<=2000/\x.sum=ByteArray.empty)&&x.patch.small else if x.kind=2 then decide (x.day=0)&&x.patch.same Pat.zero else if x.kind=3 then decide (x.day=0)&&x.patch.same Pat.zero&&decide (x.sum=ByteArray.empty)else false):=by unfold Let.formed;rw[h];rfl
theorem fO(s:ByteArray):s.toList.isEmpty=decide (s=ByteArray.empty):=by
 rw[Bool.eq_iff_iff,decide_eq_true_eq,List.isEmpty_iff,ByteArray.toList_eq]
 constructor
 ·intro h;exact ba_ext (by rw[h];rfl)
 ·intro h;rw[h];rfl
theorem kind1_chain{x:Let}{T:ByteArray}{S C2 C3 C:Bool}(ht:T.toList.isEmpty= !S)(h2:Hid (C2=(decide (0<=x.day)&&decide (x.day<=2000))))(h3:Hid (C3=(C2&&x.sum.toList.isEmpty)))(h:Hid (C=(C3&& !T.toList.isEmpty))):
  C=(decide (0<=x.day/\x.day<=2000/\x.sum=ByteArray.empty)&&S):=by
 rw[h.out,h3.out,h2.out,ht,fO]
 rw[Bool.eq_iff_iff]
 simp only[Bool.and_eq_true,decide_eq_true_eq,Bool.not_not]
 constructor
 ·rintro⟨⟨⟨a,b⟩,c⟩,d⟩;exact⟨⟨a,b,c⟩,d⟩
 ·rintro⟨⟨a,b,c⟩,d⟩;exact⟨⟨⟨a,b⟩,c⟩,d⟩
theorem kind3_chain{x:Let}{Z C2 C:Bool}(h2:Hid (C2=((x.day==0)&&Z)))(h:Hid (C=(C2&&x.sum.toList.isEmpty))):C=(decide (x.day=0)&&Z&&decide (x.sum=ByteArray.empty)):=by
 rw[h.out,h2.out,fO]
 rfl
set_option maxHeartbeats 2000000 in
theorem wf_any(r:Rl)(W:World)(hT:HasT W)(hp:PatAt W r.1.patch r.2)(ho:LetOk r.1):
  Calls Tryz.prog 75 #[.agg (ay r).toArray] W fun e w'=>e= .returned (.bool r.1.formed)/\Below W.heap.size W w':=by
 obtain⟨cs,ecs⟩:∃cs,cs=ay r:=⟨_,rfl⟩
 have hr:Row (W.alloc (.cells cs.toArray 49)) W.heap.size 49 cs:=Row.new _ _ _
 have hb1:Below W.heap.size W (W.alloc (.cells cs.toArray 49)):=(Below.refl _ _).alloc (Nat.le_refl _) _
 have c0:=hr.at (show cs[0]? =some (.int .i64 r.1.kind) by rw[ecs];rfl)
 have c1:=hr.at (show cs[1]? =some (.int .i64 r.1.party) by rw[ecs];rfl)
 have c2:=hr.at (show cs[2]? =some (.int .i64 r.1.number) by rw[ecs];rfl)
 have c3:=hr.at (show cs[3]? =some (.int .i64 r.1.sent) by rw[ecs];rfl)
 have c4:=hr.at (show cs[4]? =some (.int .i64 r.1.day) by rw[ecs];rfl)
 have c24:=hr.at (show cs[24]? =some (.string r.1.sum) by rw[ecs];rfl)
 have HMS:Hid ((W.alloc (.cells cs.toArray 49)).rangeAt W.heap.size 5 (aw r.1.patch r.2)):=h_ (hr.range (fun j v hj=>by rw[ecs];exact let_at hj))
 have HIP:Hid ((Tryz.prog.info? 47).map (·.size)=some (aw r.1.patch r.2).length):=by show _=_;rw[fZ];kernel_rfl
 have CT:=text_any r.1.patch r.2 (W.alloc (.cells cs.toArray 49)) (hT.below hb1 (Nat.le_refl _)) (hp.below hb1 (Nat.le_refl _)) ho.patch
 have CB:=blank_any r.1.patch r.2 (W.alloc (.cells cs.toArray 49))
 rw[<-ecs]
 obtain⟨T,eT⟩:∃T,T=tx r.1.patch.text:=⟨_,rfl⟩
 obtain⟨S,eS⟩:∃S,S=r.1.patch.small:=⟨_,rfl⟩
 obtain⟨Z,eZ⟩:∃Z,Z=r.1.patch.same Pat.zero:=⟨_,rfl⟩
 obtain⟨ps,eps⟩:∃ps,ps=aw r.1.patch r.2:=⟨_,rfl⟩
 have ETS:Hid (T.toList.isEmpty= !S):=h_ (by
  rw[eT,eS,ByteArray.toList_eq,tx_data]
  unfold Pat.text
  cases r.1.patch.small<;>rfl)
 rw[<-eT]at CT
 rw[<-eZ]at CB
 rw[<-eps]at CT CB HMS HIP
 have HB1:=h_ hb1
 have C24:Hid (∀w',Below (W.alloc (.cells cs.toArray 49)).heap.size (W.alloc (.cells cs.toArray 49)) w'->w'.cell? ⟨W.heap.size,24,none⟩=some (.string r.1.sum)):=h_ fun w' hw=>by rw[hw.cell (p:=⟨W.heap.size,24,none⟩) (by simp)];exact c24
 have CTR:=h_ (CT.mono (R':=fun e w'=> ∃v,e= .returned v/\(v= .string T/\Hid (Below (W.alloc (.cells cs.toArray 49)).heap.size (W.alloc (.cells cs.toArray 49)) w'))) (fun _ _ h=>⟨_,h.1,rfl,h_ h.2⟩))
 have CBR:=h_ (CB.mono (R':=fun e w'=> ∃v,e= .returned v/\(v= .bool Z/\Hid (Below (W.alloc (.cells cs.toArray 49)).heap.size (W.alloc (.cells cs.toArray 49)) w'))) (fun _ _ h=>⟨_,h.1,rfl,h_ h.2⟩))
 clear CT CB
 clear hr hb1 ecs eT eps
 go_enter Tryz.func75,Tryz.ntmps75
 repeat (first|(refine Grd.chk ?_;first|(apply Grd.or3;(case hj=>kernel_rfl);(case ht=>(simp only[List.getElem?_toArray,List.getElem?_cons_succ,List.getElem?_cons_zero];rfl));(case n1=>decide);(case n2=>decide);(case n3=>decide);(case hsz=>simp);(case e1=>(go_simp<;>first|rfl|exact(Bool.not_not _).symm|exact Grd.ifs2 _ _ _));(case e2=>(go_simp<;>first|rfl|exact(Bool.not_not _).symm|exact Grd.ifs2 _ _ _));(case e3=>(go_simp<;>first|rfl|exact(Bool.not_not _).symm|exact Grd.ifs2 _ _ _));intro u1 u2 u3 C hC;simp only[Pt])|(apply Grd.and3;(case hj=>kernel_rfl);(case ht=>(simp only[List.getElem?_toArray,List.getElem?_cons_succ,List.getElem?_cons_zero];rfl));(case n1=>decide);(case n2=>decide);(case n3=>decide);(case hsz=>simp);(case e1=>(go_simp<;>first|rfl|exact(Bool.not_not _).symm|exact Grd.ifs2 _ _ _));(case e2=>(go_simp<;>first|rfl|exact(Bool.not_not _).symm|exact Grd.ifs2 _ _ _));(case e3=>(go_simp<;>first|rfl|exact(Bool.not_not _).symm|exact Grd.ifs2 _ _ _));intro u1 u2 u3 C hC;simp only[Pt]))|go_skip|go_step|go_upon)
 ·have key:=base_chain (x:=r.1) (by assumption) (by assumption) (by assumption) (by assumption) hC
  go_ret
  refine⟨?_,HB1.out⟩
  rw[formed_base (by simp_all)]
  rfl
 ·have key:=base_chain (x:=r.1) (by assumption) (by assumption) (by assumption) (by assumption) hC
  have hbase:r.1.base=true:=by simp_all
  have HF:=h_ (formed_eq hbase)
  clear key hbase
  by_cases k1:r.1.kind=1
  ·have kb1:(r.1.kind==1)=true:=by simp[k1]
   have HK1:=h_ k1
   clear k1
   repeat (first|(refine Grd.chk ?_;first|(apply Grd.and3;(case hj=>kernel_rfl);(case ht=>(simp only[List.getElem?_toArray,List.getElem?_cons_succ,List.getElem?_cons_zero];rfl));(case n1=>decide);(case n2=>decide);(case n3=>decide);(case hsz=>simp);(case e1=>(go_simp<;>first|rfl|exact(Bool.not_not _).symm|exact Grd.ifs2 _ _ _));(case e2=>(go_simp<;>first|rfl|exact(Bool.not_not _).symm|exact Grd.ifs2 _ _ _));(case e3=>(go_simp<;>first|rfl|exact(Bool.not_not _).symm|exact Grd.ifs2 _ _ _));intro u1 u2 u3 C hC;simp only[Pt])|(apply Grd.and4cx (R:=fun w'=>Hid (Below (W.alloc (.cells cs.toArray 49)).heap.size (W.alloc (.cells cs.toArray 49)) w'));(case hj=>kernel_rfl);(case ht=>(simp only[List.getElem?_toArray,List.getElem?_cons_succ,List.getElem?_cons_zero];rfl));(case n1=>decide);(case n2=>decide);(case n3=>decide);(case n4=>decide);(case hsz=>simp);(case hR=>exact Below.refl _ _);(case e1=>(go_simp<;>first|rfl|exact(Bool.not_not _).symm|exact Grd.ifs2 _ _ _));(case e2=>exact Hk.exec_mid 47 (.tmp 49) rfl W.heap.size 5 rfl ps _ HMS.out Tryz.underlying47 rfl HIP.out);(case e3=>exact Free.opRun_call (f:=46) (args:= #[.agg ps.toArray]) (by go_simp<;>rfl) CTR.out);(case e4=>(intro w' _;(go_simp<;>first|rfl|exact(Bool.not_not _).symm|exact Grd.ifs2 _ _ _)));intro u1 u2 u3 u4 C w2 hC hb2;simp only[Pt]))|go_skip|go_step|go_upon)
   go_ret
   refine⟨?_,HB1.out.trans (hb2.out.mono HB1.out.size)⟩
   have key:=kind1_chain (x:=r.1) ETS.out (by assumption) (by assumption) hC
   rw[HF.out,if_pos HK1.out, <-eS, <-key]
   rfl
  ·have kb1:(r.1.kind==1)=false:=by simp[k1]
   by_cases k2:r.1.kind=2
   ·have kb2:(r.1.kind==2)=true:=by simp[k2]
    have HK1:=h_ k1
    have HK2:=h_ k2
    clear k1 k2
    repeat (first|(refine Grd.chk ?_;(apply Grd.and3c (R:=fun w'=>Hid (Below (W.alloc (.cells cs.toArray 49)).heap.size (W.alloc (.cells cs.toArray 49)) w'));(case hj=>kernel_rfl);(case ht=>(simp only[List.getElem?_toArray,List.getElem?_cons_succ,List.getElem?_cons_zero];rfl));(case n1=>decide);(case n2=>decide);(case n3=>decide);(case hsz=>simp);(case hR=>exact Below.refl _ _);(case e1=>(go_simp<;>first|rfl|exact(Bool.not_not _).symm|exact Grd.ifs2 _ _ _));(case e2=>exact Hk.exec_mid 47 (.tmp 60) rfl W.heap.size 5 rfl ps _ HMS.out Tryz.underlying47 rfl HIP.out);(case e3=>exact Free.opRun_call (f:=110) (args:= #[.agg ps.toArray]) (by go_simp<;>rfl) CBR.out);intro u1 u2 u3 C w2 hC hb2;simp only[Pt]))|go_skip|go_step|go_upon)
    go_ret
    refine⟨?_,HB1.out.trans (hb2.out.mono HB1.out.size)⟩
    rw[HF.out,if_neg HK1.out,if_pos HK2.out, <-eZ,hC.out]
    rfl
   ·have kb2:(r.1.kind==2)=false:=by simp[k2]
    by_cases k3:r.1.kind=3
    ·have kb3:(r.1.kind==3)=true:=by simp[k3]
     have HK1:=h_ k1
     have HK2:=h_ k2
     have HK3:=h_ k3
     clear k1 k2 k3
     repeat (first|(refine Grd.chk ?_;first|(apply Grd.and3c (R:=fun w'=>Hid (Below (W.alloc (.cells cs.toArray 49)).heap.size (W.alloc (.cells cs.toArray 49)) w'));(case hj=>kernel_rfl);(case ht=>(simp only[List.getElem?_toArray,List.getElem?_cons_succ,List.getElem?_cons_zero];rfl));(case n1=>decide);(case n2=>decide);(case n3=>decide);(case hsz=>simp);(case hR=>exact Below.refl _ _);(case e1=>(go_simp<;>first|rfl|exact(Bool.not_not _).symm|exact Grd.ifs2 _ _ _));(case e2=>exact Hk.exec_mid 47 (.tmp 70) rfl W.heap.size 5 rfl ps _ HMS.out Tryz.underlying47 rfl HIP.out);(case e3=>exact Free.opRun_call (f:=110) (args:= #[.agg ps.toArray]) (by go_simp<;>rfl) CBR.out);intro u1 u2 u3 C w2 hC hb2;have c24n:=C24.out _ hb2.out;simp only[Pt])|(apply Grd.and3;(case hj=>kernel_rfl);(case ht=>(simp only[List.getElem?_toArray,List.getElem?_cons_succ,List.getElem?_cons_zero];rfl));(case n1=>decide);(case n2=>decide);(case n3=>decide);(case hsz=>simp);(case e1=>(go_simp<;>first|rfl|exact(Bool.not_not _).symm|exact Grd.ifs2 _ _ _));(case e2=>(go_simp<;>first|rfl|exact(Bool.not_not _).symm|exact Grd.ifs2 _ _ _));(case e3=>(go_simp<;>first|rfl|exact(Bool.not_not _).symm|exact Grd.ifs2 _ _ _));intro u1 u2 u3 C hC;simp only[Pt]))|go_skip|go_step|go_upon)
     go_ret
     refine⟨?_,HB1.out.trans (hb2.out.mono HB1.out.size)⟩
     have key:=kind3_chain (x:=r.1) (Z:=Z) (by assumption) hC
     rw[HF.out,if_neg HK1.out,if_neg HK2.out,if_pos HK3.out, <-eZ, <-key]
     rfl
    ·have kb3:(r.1.kind==3)=false:=by simp[k3]
     have HK1:=h_ k1
     have HK2:=h_ k2
     have HK3:=h_ k3
     clear k1 k2 k3
     repeat (first|go_skip|go_step|go_upon)
     go_ret
     refine⟨?_,HB1.out⟩
     rw[HF.out,if_neg HK1.out,if_neg HK2.out,if_neg HK3.out]
     rfl
end Go.Proofs.YtekfoaenomgjgaaGreatDoor

namespace Go.Proofs.YtekfoaenomgjgaaGreatDoor
open Go.RowKit Go.W32 Go.Blk Go.Cs Go.Lib Go.Opn
structure OfK (w:World) (g:Nat) (kind parties:Int):Prop where
 k:w.cell? ⟨g,0,none⟩=some (.int .i64 kind)
 p:w.cell? ⟨g+1,0,none⟩=some (.int .i64 parties)
theorem OfK.below{w w':World}{g B:Nat}{kind parties:Int}(h:OfK w g kind parties)(hb:Below B w w')(hB:w.heap.size<=B):OfK w' g kind parties:=
 ⟨by rw[hb.cell (p:=⟨g,0,none⟩) (by have:=World.block_lt_of_cell? w _ h.k;omega)];exact h.k,by rw[hb.cell (p:=⟨g+1,0,none⟩) (by have:=World.block_lt_of_cell? w _ h.p;omega)];exact h.p⟩
def ofV(g:Nat):Value:= .func (.func 74) #[] #[.pointer (some ⟨g,0,none⟩), .pointer (some ⟨g+1,0,none⟩)]
theorem of_any(kind parties:Int)(W:World):
  Calls Tryz.prog 43 #[.int .i64 kind, .int .i64 parties] W fun e w'=>e= .returned (ofV W.heap.size)/\Below W.heap.size W w'/\OfK w' W.heap.size kind parties:=by
 have hb:Hid (Below W.heap.size W ((W.alloc (.cells #[.int .i64 kind] 3)).alloc (.cells #[.int .i64 parties] 3))):=h_ (((Below.refl _ _).alloc (Nat.le_refl _) _).alloc (by simp) _)
 have h1:Row (W.alloc (.cells #[.int .i64 kind] 3)) W.heap.size 3 [.int .i64 kind]:=Row.new _ _ _
 have h2:Row ((W.alloc (.cells #[.int .i64 kind] 3)).alloc (.cells #[.int .i64 parties] 3)) (W.heap.size+1) 3 [.int .i64 parties]:=by
  have:=Row.new (W.alloc (.cells #[.int .i64 kind] 3)) 3 [.int .i64 parties]
  rwa[show(W.alloc (.cells #[.int .i64 kind] 3)).heap.size=W.heap.size+1 by simp]at this
 have hk:Hid (OfK ((W.alloc (.cells #[.int .i64 kind] 3)).alloc (.cells #[.int .i64 parties] 3)) W.heap.size kind parties):=h_ ⟨(h1.alloc _).at rfl,h2.at rfl⟩
 clear h1 h2
 go_enter Tryz.func43,Tryz.ntmps43
 go_wp2_with fail
 go_ret
 exact⟨rfl,hb.out,hk.out⟩
theorem oc_chain{x:Let}{kind parties:Int}{C1 F:Bool}(h:Hid (C1=(x.kind==kind&&decide (x.party<parties))))(hF:F=x.formed):(C1&&F)=aQ kind parties x:=by
 rw[h.out,hF]
 unfold aQ
 rw[Bool.eq_iff_iff]
 simp
set_option maxHeartbeats 1000000 in
theorem oc_any(kind parties:Int)(r:Rl)(g:Nat)(W:World)(hk:OfK W g kind parties)(hT:HasT W)(hp:PatAt W r.1.patch r.2)(ho:LetOk r.1):
  Calls Tryz.prog 74 #[.agg (ay r).toArray, .pointer (some ⟨g,0,none⟩), .pointer (some ⟨g+1,0,none⟩)] W fun e w'=>e= .returned (.bool (aQ kind parties r.1))/\Below W.heap.size W w':=by
 obtain⟨cs,ecs⟩:∃cs,cs=ay r:=⟨_,rfl⟩
 have hr:Row (W.alloc (.cells cs.toArray 49)) W.heap.size 49 cs:=Row.new _ _ _
 have hb1:Below W.heap.size W (W.alloc (.cells cs.toArray 49)):=(Below.refl _ _).alloc (Nat.le_refl _) _
 have hk1:=hk.below hb1 (Nat.le_refl _)
 have k0:=hk1.k
 have k1:=hk1.p
 have c0:=hr.at (show cs[0]? =some (.int .i64 r.1.kind) by rw[ecs];rfl)
 have c1:=hr.at (show cs[1]? =some (.int .i64 r.1.party) by rw[ecs];rfl)
 have HMS:Hid ((W.alloc (.cells cs.toArray 49)).rangeAt W.heap.size 0 cs):=h_ (hr.range (fun j v hj=>by rw[Nat.zero_add];exact hj))
 have HIP:Hid ((Tryz.prog.info? 49).map (·.size)=some cs.length):=by show _=_;rw[ecs,encLet_len];kernel_rfl
 have CW:=wf_any r (W.alloc (.cells cs.toArray 49)) (hT.below hb1 (Nat.le_refl _)) (hp.below hb1 (Nat.le_refl _)) ho
 rw[<-ecs]at CW
 obtain⟨F,eF⟩:∃F,F=r.1.formed:=⟨_,rfl⟩
 rw[<-eF]at CW
 have HB1:=h_ hb1
 have CWR:=h_ (CW.mono (R':=fun e w'=> ∃v,e= .returned v/\(v= .bool F/\Hid (Below W.heap.size W w'))) (fun _ _ h=>⟨_,h.1,rfl,h_ (hb1.trans (h.2.mono hb1.size))⟩))
 have ECS:=h_ ecs
 rw[<-ecs]
 clear hk hk1 hr hb1 ecs hp ho hT CW
 go_enter Tryz.func74,Tryz.ntmps74
 repeat (first|(refine Grd.chk ?_;first|(apply Grd.and4;(case hj=>kernel_rfl);(case ht=>(simp only[List.getElem?_toArray,List.getElem?_cons_succ,List.getElem?_cons_zero];rfl));(case n1=>decide);(case n2=>decide);(case n3=>decide);(case n4=>decide);(case hsz=>simp);(case e1=>(go_simp<;>first|rfl|exact(Bool.not_not _).symm|exact Grd.ifs2 _ _ _));(case e2=>(go_simp<;>first|rfl|exact(Bool.not_not _).symm|exact Grd.ifs2 _ _ _));(case e3=>(go_simp<;>first|rfl|exact(Bool.not_not _).symm|exact Grd.ifs2 _ _ _));(case e4=>(go_simp<;>first|rfl|exact(Bool.not_not _).symm|exact Grd.ifs2 _ _ _));intro u1 u2 u3 u4 C hC;simp only[Pt])|(apply Grd.and2c (R:=fun w'=>Hid (Below W.heap.size W w'));(case hj=>kernel_rfl);(case ht=>(simp only[List.getElem?_toArray,List.getElem?_cons_succ,List.getElem?_cons_zero];rfl));(case n1=>decide);(case n2=>decide);(case hsz=>simp);(case hR=>exact HB1);(case e1=>exact Hk.exec_mid 49 (.tmp 3) rfl W.heap.size 0 rfl cs _ HMS.out Tryz.underlying49 rfl HIP.out);(case e2=>exact Free.opRun_call (f:=75) (args:= #[.agg cs.toArray]) (by go_simp<;>rfl) CWR.out);intro u1 u2 C w2 hC hb2;simp only[Pt]))|go_skip|go_step|go_upon)
 go_ret
 refine⟨?_,hb2.out⟩
 refine congrArg (fun b=>Ending.returned (.bool b)) ?_
 rw[hC.out]
 exact oc_chain (by assumption) eF
end Go.Proofs.YtekfoaenomgjgaaGreatDoor

namespace Go.Proofs.YtekfoaenomgjgaaGreatDoor
open Go.RowKit Go.W32 Go.Blk Go.Cs Go.Lib Go.Opn

theorem idx3(a b c v:Int)(k:Nat)(hk:k<3)(hv: [a,b,c][k]? =some v)(W:World):
  (Instr.index 108 (.agg #[.int .i64 a, .int .i64 b, .int .i64 c]) (.int .i64 (k:Int))).run Tryz.prog W= .ok (.int .i64 v) W:=by
 match k,hk with
 |0,_=>cases hv;go_simp<;>rfl
 |1,_=>cases hv;go_simp<;>rfl
 |2,_=>cases hv;go_simp<;>rfl
theorem text_len{x:Pat}(h:PatOk x):x.text.length<=100000:=by
 unfold Pat.text
 cases hs:x.small with
 |false=>simp
 |true=>
  unfold Pat.small at hs
  rw[Bool.and_eq_true,decide_eq_true_eq,decide_eq_true_eq]at hs
  have:=fB x.nums h.nums
  have hf:(x.new.start.flatMap (fun s:Int×Int=> [s.1,s.2])).length=2*x.new.start.length:=by
   generalize x.new.start=l
   induction l with
   |nil=>rfl
   |cons y l ih=>rw[List.flatMap_cons,List.length_append,ih];simp;omega
  have hn:x.nums.length<=440:=by
   simp only[Pat.nums,Cls.nums,Cls.front,Cls.back,List.length_append,List.length_cons,List.length_nil,hf];omega
  rw[if_pos rfl,List.length_append]
  have:patchT.length=5:=rfl
  omega
def L3(x:Let):List Int:= [x.party,x.number,x.day]
def tk(x:Let)(k:Nat):ByteArray:=tx (proposeT++dr ((L3 x).take k))
theorem tk_step{x:Let}{k:Nat}{n:Int}(h:(L3 x)[k]? =some n):tk x k++((⟨#[32]⟩:ByteArray)++dec n)=tk x (k+1):=by
 have e:(L3 x).take (k+1)=(L3 x).take k++ [n]:=by rw[List.take_add_one,h];rfl
 unfold tk
 rw[e,dX,fy, <-List.append_assoc]
 show tx _++(tx [32]++tx (Lib.itoa n))=_
 rw[fC,fC]
 rfl
theorem tk_size{x:Let}(h:∀n∈L3 x,bn n)(k:Nat):(tk x k).size<=100:=by
 unfold tk
 rw[tx_size,List.length_append]
 have h1:=fB ((L3 x).take k) fun n hn=>h n (List.mem_of_mem_take hn)
 have h2:((L3 x).take k).length<=3:=by rw[List.length_take];exact Nat.min_le_right _ _
 have:proposeT.length=7:=rfl
 omega
theorem tk_end(x:Let):tk x 3++(⟨#[32]⟩:ByteArray)++tx x.patch.text=tx x.text:=by
 show tx _++tx [32]++tx _=_
 rw[fC,fC]
 unfold Let.text L3
 rw[List.take_of_length_le (by simp)]
 simp
set_option maxHeartbeats 2000000 in
theorem dg_any(r:Rl)(W:World)(hT:HasT W)(hp:PatAt W r.1.patch r.2)(ho:LetOk r.1):
  Calls Tryz.prog 15 #[.agg (ay r).toArray] W fun e w'=>e= .returned (.string (DG r.1))/\Below W.heap.size W w':=by
 obtain⟨cs,ecs⟩:∃cs,cs=ay r:=⟨_,rfl⟩
 have hr:Row (W.alloc (.cells cs.toArray 49)) W.heap.size 49 cs:=Row.new _ _ _
 have hb1:Below W.heap.size W (W.alloc (.cells cs.toArray 49)):=(Below.refl _ _).alloc (Nat.le_refl _) _
 have z1:(W.alloc (.cells cs.toArray 49)).heap.size=W.heap.size+1:=by simp
 have CF:Hid (∀w',Below (W.heap.size+1) (W.alloc (.cells cs.toArray 49)) w'->w'.rangeAt W.heap.size 0 cs/\w'.cell? ⟨W.heap.size,1,none⟩=some (.int .i64 r.1.party)/\w'.cell? ⟨W.heap.size,2,none⟩=some (.int .i64 r.1.number)/\w'.cell? ⟨W.heap.size,4,none⟩=some (.int .i64 r.1.day)/\w'.rangeAt W.heap.size 5 (aw r.1.patch r.2)):=h_ fun w' hw=>by
  have h:=hr.below hw (Nat.lt_succ_self _)
  exact⟨h.range (fun j v hj=>by rw[Nat.zero_add];exact hj),h.at (by rw[ecs];rfl),h.at (by rw[ecs];rfl),h.at (by rw[ecs];rfl),h.range (fun j v hj=>by rw[ecs];exact let_at hj)⟩
 have HIL:Hid ((Tryz.prog.info? 49).map (·.size)=some cs.length):=by show _=_;rw[ecs,encLet_len];kernel_rfl
 have HIP:Hid ((Tryz.prog.info? 47).map (·.size)=some (aw r.1.patch r.2).length):=by show _=_;rw[fZ];kernel_rfl
 have hlow:∀w',Below (W.heap.size+1) (W.alloc (.cells cs.toArray 49)) w'->Below W.heap.size W w':=fun w' hw=>hb1.trans (hw.mono (by omega))
 have CO:Hid (∀g w',Below (W.heap.size+1) (W.alloc (.cells cs.toArray 49)) w'->OfK w' g 1 12->Calls Tryz.prog 74 #[.agg cs.toArray, .pointer (some ⟨g,0,none⟩), .pointer (some ⟨g+1,0,none⟩)] w' fun e w''=>e= .returned (.bool (aQ 1 12 r.1))/\Below w'.heap.size w' w''):=h_ fun g w' hw hk=>by
  have:=oc_any 1 12 r g w' hk (hT.below (hlow w' hw) (Nat.le_refl _)) (hp.below (hlow w' hw) (Nat.le_refl _)) ho
  rwa[<-ecs]at this
 have CT:Hid (∀w',Below (W.heap.size+1) (W.alloc (.cells cs.toArray 49)) w'->Calls Tryz.prog 46 #[.agg (aw r.1.patch r.2).toArray] w' fun e w''=>e= .returned (.string (tx r.1.patch.text))/\Below w'.heap.size w' w''):=h_ fun w' hw=>text_any r.1.patch r.2 w' (hT.below (hlow w' hw) (Nat.le_refl _)) (hp.below (hlow w' hw) (Nat.le_refl _)) ho.patch
 have CI:Hid (∀n w',bn n->Below (W.heap.size+1) (W.alloc (.cells cs.toArray 49)) w'->Calls Tryz.prog 44 #[.int .i64 n] w' fun e w''=>e= .returned (.string (dec n))/\Below w'.heap.size w' w''):=h_ fun n w' hn hw=>itoa_any n w' hn.1 hn.2 (hT.below (hlow w' hw) (Nat.le_refl _))
 have htl:=text_len ho.patch
 have hL3:∀n∈L3 r.1,bn n:=fun n hn=>by
  simp only[L3,List.mem_cons,List.not_mem_nil,or_false]at hn
  rcases hn with rfl|rfl|rfl
  ·exact ho.nums.2.1
  ·exact ho.nums.2.2.1
  ·exact ho.nums.2.2.2.2
 have htk:=tk_size hL3
 have hsx:(tx r.1.text).size<=200000:=by
  rw[<-tk_end,ba_size,ba_size,tx_size]
  have:=htk 3
  have:(⟨#[32]⟩:ByteArray).size=1:=rfl
  omega
 have CS:Hid (∀w',Below (W.heap.size+1) (W.alloc (.cells cs.toArray 49)) w'->Calls Tryz.prog 45 #[.string (tk r.1 3++(⟨#[32]⟩:ByteArray)++tx r.1.patch.text)] w' fun e w''=>e= .returned (.string (SD (tx r.1.text)))/\Below w'.heap.size w' w''):=h_ fun w' hw=>by
  rw[tk_end]
  exact sum_any KC (tx r.1.text) w' (by omega) (hT.below (hlow w' hw) (Nat.le_refl _)).k
 obtain⟨cn,ecn⟩:∃cn,cn=aQ 1 12 r.1:=⟨_,rfl⟩
 have HD:Hid (DG r.1=if cn then SD (tx r.1.text)else ByteArray.empty):=by show _=_;rw[ecn];rfl
 rw[<-ecn]at CO
 obtain⟨dd,edd⟩:∃dd,dd=SD (tx r.1.text):=⟨_,rfl⟩
 rw[<-edd]at CS HD
 obtain⟨ps,eps⟩:∃ps,ps=aw r.1.patch r.2:=⟨_,rfl⟩
 rw[<-eps]at CF HIP CT
 obtain⟨tp,etp⟩:∃tp,tp=tx r.1.patch.text:=⟨_,rfl⟩
 have htp:tp.size<=100000:=by rw[etp,tx_size];exact htl
 rw[<-etp]at CT CS
 have TKS:Hid (∀k,(tk r.1 k).size<=100):=htk
 have HB1:=h_ hb1
 have HLOW:=h_ hlow
 have HL3:=h_ hL3
 rw[<-ecs]
 clear hr hb1 ecs hlow htl htk hsx hL3 ho hT hp edd eps etp ecn
 go_enter Tryz.func15,Tryz.ntmps15
 go_wp2_with fail
 generalize e1:(W.alloc (.cells cs.toArray 49))=W1 at*
 have Z1:=h_ z1
 clear e1 z1
 refine Free.wp_region_free 4 [(0, .ind (fun g=>ofV g) (fun g w2=>OfK w2 g 1 12)),(2, .det (.bool cn))] (fun w2=>Below (W.heap.size+1) W1 w2) (by kernel_rfl) (by kernel_rfl) ?_ (Below.refl _ _).drew (fun _ _ h g=>h.trans (Below.mono g (by have:=h.size;have:=Z1.out;omega))) ?_
 ·intro j mk rr hf y w1 w2 hr gr
  simp only[Free.find]at hf
  repeat' split at hf
  all_goals (first|(cases hf;exact hr.below gr (Nat.le_refl _))|cases hf)
 simp only[List.take_succ_cons,List.take_zero]
 apply Free.chain_ind rfl rfl
 ·intro w' hB hA
  refine Free.opRun_call (f:=43) (args:= #[.int .i64 1, .int .i64 12]) (by clear hB hA;go_simp<;>rfl) ?_
  refine(of_any 1 12 w').mono ?_
  rintro e w3 ⟨rfl,hb3,hk3⟩
  exact⟨_,rfl,hb3,_,rfl,hk3⟩
 intro g
 simp only[Pt]
 apply Free.chain_still (by first|exact Free.wanted_of rfl rfl rfl|rfl) rfl
 ·intro w' hB hA
  exact Hk.exec_mid 49 (.tmp 1) rfl W.heap.size 0 rfl cs _ (CF.out _ hB).1 Tryz.underlying49 rfl HIL.out
 simp only[Pt]
 apply Free.chain_det rfl rfl
 ·intro w' hB hA
  have hk:OfK w' g 1 12:=hA _ List.mem_cons_self (by kernel_rfl)
  refine Free.opRun_call (f:=74) (args:= #[.agg cs.toArray, .pointer (some ⟨g,0,none⟩), .pointer (some ⟨g+1,0,none⟩)]) (by clear hB hA hk;unfold ofV;go_simp<;>rfl) ?_
  refine(CO.out g w' hB hk).mono ?_
  rintro e w3 ⟨rfl,hb3⟩
  exact⟨_,rfl,hb3,rfl⟩
 simp only[Pt]
 iterate 1 (apply Free.chain_still (by first|exact Free.wanted_of rfl rfl rfl|rfl) rfl;(intro w' hB hA;obtain qB:=hB;clear hA;go_light;go_simp<;>rfl);(try simp only[Pt]))
 apply Free.chain_nil
 intro wz hz _ _
 simp only[List.drop_succ_cons,List.drop_zero]
 have HZ:=h_ hz
 obtain⟨_,d1,d2,d4,hm⟩:=CF.out _ hz
 have CF2:=CF
 clear CO CF
 cases cn with
 |false=>
  go_wp2_with fail
  go_ret
  exact⟨by rw[HD.out];rfl,HLOW.out _ HZ.out⟩
 |true=>
  have HMS:=h_ hm
  clear hm
  go_wp2_with fail
  go_loopw [3,17] (fun u v w=> ∃k:Nat,u= .string (tk r.1 k)/\v= .int .i64 (k:Int)/\k<=3/\Below (W.heap.size+1) W1 w) (fun _ v _=>3- (RowKit.intOf v).toNat)
  case atStart=>exact⟨0,rfl,rfl,by omega,HZ.out⟩
  case round=>
   clear d1 d2 d4 HMS HZ
   obtain⟨k,rfl,rfl,hk,hw⟩:=hrel
   have HW:=h_ hw
   clear hw
   obtain⟨tt,ett⟩:∃tt,tt=tk r.1 k:=⟨_,rfl⟩
   have htt:tt.size<=100:=by rw[ett];exact TKS.out k
   rw[<-ett]
   by_cases hk3:k<3
   ·have hki:(k:Int)<3:=by omega
    have hx:(L3 r.1)[k]? =some (L3 r.1)[k]:=List.getElem?_eq_getElem hk3
    have hidx:=idx3 r.1.party r.1.number r.1.day (L3 r.1)[k] k hk3 hx
    have okn:bn (L3 r.1)[k]:=HL3.out _ (List.getElem_mem hk3)
    have hst:Hid (tt++((⟨#[32]⟩:ByteArray)++dec (L3 r.1)[k])=tk r.1 (k+1)):=by show _=_;rw[ett];exact tk_step hx
    obtain⟨n,en⟩:∃n,n=(L3 r.1)[k]:=⟨_,rfl⟩
    rw[<-en]at hidx okn hst
    have hdn:=dec_size n okn.1 okn.2
    have y1: ¬9223372036854775807<(⟨#[32]⟩:ByteArray).size+(dec n).size:=by have:(⟨#[32]⟩:ByteArray).size=1:=rfl;omega
    have y2: ¬9223372036854775807<tt.size+((⟨#[32]⟩:ByteArray).size+(dec n).size):=by have:(⟨#[32]⟩:ByteArray).size=1:=rfl;omega
    have CN:=h_ (CI.out n wr okn HW.out)
    clear hx en ett CI CT CS
    go_wp2_with fail
    refine CN.out.mono ?_
    rintro e w5 ⟨rfl,hb5⟩
    have HB5:Hid (Below (W.heap.size+1) W1 w5):=h_ (HW.out.trans (hb5.mono (by have:=HW.out.size;have:=Z1.out;omega)))
    clear hb5
    go_wp2_with fail
    go_roundw
    case rel=>exact⟨k+1,by rw[hst.out],rfl,hk3,HB5.out⟩
    case measure=>simp[RowKit.intOf];omega
   ·have hki: ¬(k:Int)<3:=by omega
    have e3:k=3:=by omega
    subst e3
    rw[<-ett]at CS
    have HMS:Hid (wr.rangeAt W.heap.size 5 ps):=h_ (by
     obtain⟨_,_,_,_,h5⟩:=CF2.out _ HW.out
     exact h5)
    have y0:(⟨#[32]⟩:ByteArray).size=1:=rfl
    have y1: ¬9223372036854775807<tt.size+(⟨#[32]⟩:ByteArray).size:=by omega
    have y2: ¬9223372036854775807<tt.size+(⟨#[32]⟩:ByteArray).size+tp.size:=by omega
    have C1:=h_ (CT.out wr HW.out)
    clear ett CI CT hk
    go_wp2_with (with_reducible refine wpList_load_mid rfl 47 (.tmp 28) rfl W.heap.size 5 rfl ps _ HMS.out Tryz.underlying47 rfl HIP.out ?_)
    refine C1.out.mono ?_
    rintro e w5 ⟨rfl,hb5⟩
    have HB5:Hid (Below (W.heap.size+1) W1 w5):=h_ (HW.out.trans (hb5.mono (by have:=HW.out.size;have:=Z1.out;omega)))
    have C2:=h_ (CS.out w5 HB5.out)
    clear hb5 CS
    go_wp2_with fail
    refine C2.out.mono ?_
    rintro e w6 ⟨rfl,hb6⟩
    have HB6:Hid (Below (W.heap.size+1) W1 w6):=h_ (HB5.out.trans (hb6.mono (by have:=HB5.out.size;have:=Z1.out;omega)))
    clear hb6
    go_wp2_with fail
    go_ret
    exact⟨by rw[HD.out];rfl,HLOW.out _ HB6.out⟩
end Go.Proofs.YtekfoaenomgjgaaGreatDoor
