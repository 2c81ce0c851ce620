/- Package consent: its maps' keys. No condition. Package consent: the first acceptances. Condition: the variables of digest and strconv hold their numbers. Package consent: the proposals by their digests. Condition: the variables of digest and strconv hold their numbers. Package consent: the days of the withdrawals. Condition: the variables of strconv hold their numbers. Package consent: the day on which a proposal is known. No condition. Package consent: valid's two closures. No condition. Package consent: whether a proposal is valid. No condition. Package consent: the first proposal of a group. No condition. Package consent: the amendment that a proposal is. No condition. -/
import Derived.Test.YtekfoaenomgjgaaGreatDoorYC
import Derived.DeepKeys4
import Derived.Test.YtekfoaenomgjgaaGreatDoorYB
import Derived.Test.YtekfoaenomgjgaaGreatDoorShelfG
import Derived.Shelf.SlicesQ.IndexFunc
import Derived.Shelf.SlicesE.IndexFunc
set_option maxRecDepth 100000
set_option linter.all false
namespace Go.Proofs.YtekfoaenomgjgaaGreatDoor
open Go.RowKit Go.W32 Go.Blk Go.Cs Go.Lib Go.Opn Go.Maps Go.WideMaps

theorem wf64{n:Int}(h:bn n):(Lit.int .i64 n).wf=true:=by
 unfold bn at h
 exact WalkArith.wf_i64 (by omega)
def sV(s:dy):Value:= .agg #[.int .i64 s.1, .int .i64 s.2]
def sOk(s:dy):Prop:=bn s.1/\bn s.2
def aV(a:dy×ByteArray):Value:= .agg #[.int .i64 a.1.1, .int .i64 a.1.2, .string a.2]
def aOk(a:dy×ByteArray):Prop:=sOk a.1/\a.2.size<=maxLen
def nV(n:Int):Value:= .int .i64 n
def tOk(s:ByteArray):Prop:=s.size<=maxLen
theorem dC:Mk.Key Tryz.prog 9 Value.string tOk:=
 ⟨string_keyed Tryz.underlying9,fun x hx=>⟨_,keyOf_string_mk Tryz.underlying9 hx⟩,fun x y _ _ h=>by injection h⟩
theorem eC:Mk.Key Tryz.prog 3 nV bn:=
 ⟨int_keyed Tryz.underlying3,fun x hx=>⟨_,keyOf_int_mk Tryz.underlying3 (wf64 hx)⟩,fun x y _ _ h=>by injection h⟩
theorem fu(w:World):(zeroValue 3).run Tryz.prog w= .ok (.int .i64 0) w:=Tryz.zeroValue3 w
theorem laidOut:laidOutB Tryz.prog=true:=by kernel_rfl
theorem row_s:(84:TypeId)<Tryz.prog.types.size:=of_decide_eq_true (by kernel_rfl)
theorem row_c:(137:TypeId)<Tryz.prog.types.size:=of_decide_eq_true (by kernel_rfl)
theorem cells_s:Tryz.prog.cellsOf 84=2:=by kernel_rfl
theorem cells_c:Tryz.prog.cellsOf 137=3:=by kernel_rfl
theorem cells_3:Tryz.prog.cellsOf 3=1:=by kernel_rfl
theorem cells_9:Tryz.prog.cellsOf 9=1:=by kernel_rfl
theorem wide_s:(match Tryz.prog.underlying 84 with|some (.array _ _)|some (.struct _)=>true|_=>false)=true:=by kernel_rfl
theorem wide_c:(match Tryz.prog.underlying 137 with|some (.array _ _)|some (.struct _)=>true|_=>false)=true:=by kernel_rfl
theorem kt_s:Tryz.prog.keyType 84=true:=by kernel_rfl
theorem kt_c:Tryz.prog.keyType 137=true:=by kernel_rfl
theorem lits_int{d:Nat}{n:Int}(h:bn n):Tryz.prog.keyLits (d+1) 3 [.int .i64 n]=some [.int .i64 n]:=by
 unfold Program.keyLits
 rw[Tryz.underlying3]
 simp only[wf64 h]
 rfl
theorem lits_str{d:Nat}{t:ByteArray}(h:tOk t):Tryz.prog.keyLits (d+1) 9 [.string t]=some [.string t.data.toList]:=by
 unfold Program.keyLits
 rw[Tryz.underlying9]
 have:t.size<=maxLen:=h
 simp[this]
theorem lits_s{d:Nat}{s:dy}(h:sOk s):Tryz.prog.keyLits (d+2) 84 [.int .i64 s.1, .int .i64 s.2]=some [.int .i64 s.1, .int .i64 s.2]:=by
 have h1:=lits_int (d:=d) h.1
 have h2:=lits_int (d:=d) h.2
 unfold Program.keyLits
 rw[Tryz.underlying84]
 simp[cells_s,cells_3,h1,h2]
theorem lits_c{d:Nat}{a:dy×ByteArray}(h:aOk a):Tryz.prog.keyLits (d+3) 137 [.int .i64 a.1.1, .int .i64 a.1.2, .string a.2]=some [.int .i64 a.1.1, .int .i64 a.1.2, .string a.2.data.toList]:=by
 have h1:=lits_s (d:=d) h.1
 have h2:=lits_str (d:=d+1) h.2
 unfold Program.keyLits
 rw[Tryz.underlying137]
 simp[cells_c,cells_s,cells_9,h1,h2]
theorem size_big:∃d,Tryz.prog.types.size+1=d+3:=⟨Tryz.prog.types.size-2,by have h:(137:Nat)<Tryz.prog.types.size:=row_c;omega⟩
theorem key_slot:Mk.Key Tryz.prog 84 sV sOk:=by
 refine⟨Keyed.of_law (deep_law_laid laidOut (m:=4) (by omega) row_s (by kernel_rfl) wide_s),fun x hx=> ?_,fun x y _ _ h=> ?_⟩
 ·obtain⟨d,hd⟩:=size_big
  have h1:=lits_s (d:=d+1) hx
  refine⟨.string (keyBytes [.int .i64 x.1, .int .i64 x.2]), ?_⟩
  have hf:(sV x).formed Tryz.prog 84=true:=by simp[sV,Value.formed,Tryz.underlying84,cells_s]
  unfold keyOf
  rw[Tryz.underlying84]
  simp only[kt_s,hf,hd,Bool.and_true,if_true]
  show Option.map _ (Tryz.prog.keyLits (d+3) 84 [.int .i64 x.1, .int .i64 x.2])=_
  rw[h1];rfl
 ·simp only[sV,Value.agg.injEq]at h
  simp at h
  exact Prod.ext h.1 h.2
theorem fo:Mk.Key Tryz.prog 137 aV aOk:=by
 refine⟨Keyed.of_law (deep_law_laid laidOut (m:=4) (by omega) row_c (by kernel_rfl) wide_c),fun x hx=> ?_,fun x y _ _ h=> ?_⟩
 ·obtain⟨d,hd⟩:=size_big
  have h1:=lits_c (d:=d) hx
  refine⟨.string (keyBytes [.int .i64 x.1.1, .int .i64 x.1.2, .string x.2.data.toList]), ?_⟩
  have hf:(aV x).formed Tryz.prog 137=true:=by simp[aV,Value.formed,Tryz.underlying137,cells_c]
  unfold keyOf
  rw[Tryz.underlying137]
  simp only[kt_c,hf,hd,Bool.and_true,if_true]
  show Option.map _ (Tryz.prog.keyLits (d+3) 137 [.int .i64 x.1.1, .int .i64 x.1.2, .string x.2])=_
  rw[h1];rfl
 ·simp only[aV,Value.agg.injEq]at h
  simp at h
  exact Prod.ext (Prod.ext h.1 h.2.1) h.2.2
end Go.Proofs.YtekfoaenomgjgaaGreatDoor

namespace Go.Proofs.YtekfoaenomgjgaaGreatDoor
open Go.RowKit Go.W32 Go.Blk Go.Cs Go.Lib Go.Opn
structure LetsAt (W:World) (A:Option Addr) (l:List Rl):Prop where
 sl:SL W 25 ay A l
 pat:∀r∈l,PatAt W r.1.patch r.2
 ok:∀r∈l,LetOk r.1
theorem LetsAt.below{w w':World}{A:Option Addr}{l:List Rl}{B:Nat}(h:LetsAt w A l)(hb:Below B w w')(hB:w.heap.size<=B):LetsAt w' A l:=
 ⟨h.sl.below hb hB,fun r hr=>(h.pat r hr).below hb hB,h.ok⟩
theorem LetsAt.at{w:World}{A:Option Addr}{l:List Rl}(h:LetsAt w A l){k:Nat}(hk:k<l.length):∃b off,A=some ⟨b,off,none⟩/\w.rangeAt b (off+k*25) (ay l[k]):=by
 obtain⟨b,off,e,hc⟩:=h.sl.at_ (List.getElem?_eq_getElem hk)
 exact⟨b,off,e,fun j v hj=>by have:=hc j v hj;rw[<-Nat.add_assoc]at this;exact this⟩
theorem dQ{w w':World}{B b o:Nat}{cs:List Value}(h:w.rangeAt b o cs)(hb:Below B w w')(hB:w.heap.size<=B):w'.rangeAt b o cs:=fun j v hj=>by
 have:=h j v hj
 have hl:=World.block_lt_of_cell? w _ this
 rw[hb.cell (p:=_) (by omega)]
 exact this
theorem acc_key{x:Let}(h:LetOk x):aOk (x.slot,x.sum):=⟨⟨h.nums.2.1,h.nums.2.2.1⟩,by have:maxLen=9223372036854775807:=rfl;have:=h.sum;show x.sum.size<=maxLen;omega⟩
theorem accs_snoc(parties:Int)(l:List Rl)(k:Nat)(hk:k<l.length):dH parties (l.take (k+1))=dU parties (dH parties (l.take k)) l[k]:=by
 unfold dH
 rw[List.take_add_one,List.getElem?_eq_getElem hk,Option.toList_some,List.foldl_append]
 rfl
structure RA (W:World) (parties:Int) (l:List Rl) (k:Nat) (w:World):Prop where
 map:Mk.MapIs w aV aOk nV W.heap.size (dH parties (l.take k))
 of:OfK w (W.heap.size+1) 2 parties
 below:Below W.heap.size W w
theorem RA.grow{W w w':World}{parties:Int}{l:List Rl}{k:Nat}(h:RA W parties l k w)(hb:Below w.heap.size w w'):RA W parties l k w':=
 ⟨h.map.keep (hb.block _ h.map.lt),h.of.below hb (Nat.le_refl _),h.below.trans (hb.mono h.below.size)⟩
set_option maxHeartbeats 4000000 in
theorem acc_any(parties:Int)(A:Option Addr)(c:Nat)(l:List Rl)(W:World)(hT:HasT W)(hl:LetsAt W A l)(hn:l.length<=4611686018427387903):
  Calls Tryz.prog 29 #[.int .i64 parties, .slice A l.length c] W fun e w'=>e= .returned (.map (some W.heap.size))/\Mk.MapIs w' aV aOk nV W.heap.size (dH parties l)/\Below W.heap.size W w':=by
 have hmm:= @run_makeMap Tryz.prog
 have CO:Hid (∀r∈l,∀w',OfK w' (W.heap.size+1) 2 parties->Below W.heap.size W w'->Calls Tryz.prog 74 #[.agg (ay r).toArray, .pointer (some ⟨W.heap.size+1,0,none⟩), .pointer (some ⟨W.heap.size+1+1,0,none⟩)] w' fun e w''=>e= .returned (.bool (aQ 2 parties r.1))/\Below w'.heap.size w' w''):=h_ fun r hr w' hk hb=>
  oc_any 2 parties r (W.heap.size+1) w' hk (hT.below hb (Nat.le_refl _)) ((hl.pat r hr).below hb (Nat.le_refl _)) (hl.ok r hr)
 have m0:Mk.MapIs (W.alloc (.map #[] 0)) aV aOk nV W.heap.size ([]:List ((dy×ByteArray)×Int)):=Mk.MapIs.made W
 have b0:Below W.heap.size W (W.alloc (.map #[] 0)):=(Below.refl _ _).alloc (Nat.le_refl _) _
 have z0:(W.alloc (.map #[] 0)).heap.size=W.heap.size+1:=by simp
 have CF:=of_any 2 parties (W.alloc (.map #[] 0))
 rw[z0]at CF
 unfold ofV at CF
 have HIL:Hid ((Tryz.prog.info? 49).map (·.size)=some 25):=by show _=_;kernel_rfl
 have HIC:Hid ((Tryz.prog.info? 137).map (·.size)=some 3):=by show _=_;kernel_rfl
 have HL:=h_ hl
 have HM0:=h_ m0
 have HB0:=h_ b0
 clear hT hl m0 b0 z0
 go_enter Tryz.func29,Tryz.ntmps29
 go_wp2_with fail
 refine CF.mono ?_
 rintro e w1 ⟨rfl,hb1,hk1⟩
 have HR:Hid (RA W parties l 0 w1):=h_ ⟨HM0.out.keep (hb1.block _ (by simp)),hk1,HB0.out.trans (hb1.mono (by simp))⟩
 clear hb1 hk1 CF HM0 HB0
 go_wp2_with fail
 go_loopw [17] (fun v wr=> ∃k:Nat,v= .int .i64 (k:Int)/\k<=l.length/\RA W parties l k wr) (fun v _=>(l.length:Int).toNat- (RowKit.intOf v).toNat)
 case atStart=>exact⟨0,rfl,Nat.zero_le _,HR.out⟩
 case round=>
  clear HR
  obtain⟨k,rfl,hk,hra⟩:=hrel
  rcases Nat.lt_or_eq_of_le hk with hkl|hkl
  ·have hki:(k:Int)<(l.length:Int):=by omega
   obtain⟨bA,off,eA,hcell⟩:=HL.out.at hkl
   have HC:=h_ (dQ hcell hra.below (Nat.le_refl _))
   have hmem:l[k]∈l:=List.getElem_mem hkl
   have hok:=HL.out.ok _ hmem
   have hnx:=accs_snoc parties l k hkl
   obtain⟨r,er⟩:∃r,r=l[k]:=⟨_,rfl⟩
   rw[<-er]at HC hmem hok hnx
   rw[eA]
   have HRA:=h_ hra
   have HNX:=h_ hnx
   obtain⟨W5,e5⟩:∃W5,W5=wr.alloc (.cells (ay r).toArray 49):=⟨_,rfl⟩
   have z5:W5.heap.size=wr.heap.size+1:=by rw[e5];simp
   have hr5:Row W5 wr.heap.size 49 (ay r):=by rw[e5];exact Row.new _ _ _
   have hb5:Below wr.heap.size wr W5:=by rw[e5];exact(Below.refl _ _).alloc (Nat.le_refl _) _
   have h5:RA W parties l k W5:=⟨hra.map.keep (hb5.block _ hra.map.lt),hra.of.below hb5 (Nat.le_refl _),hra.below.trans (hb5.mono hra.below.size)⟩
   have hst:=fun(Q:Exit->Act->World->Prop) (ops:Array Oper) (rest:List Oper) (o:Oper) (a:Act) (hgd:o.guard=none) (ho:o.op= .store 49 (.tmp 8) (.tmp 20)) (hx:a.eval (.tmp 8)= .pointer (some ⟨wr.heap.size,0,none⟩)) (hy:a.eval (.tmp 20)= .agg (ay r).toArray) (old:Array Value) (hold:old.size=(ay r).toArray.size)=>
    Hk.wpList_store_fresh (P:=Tryz.prog) (ops:=ops) (rest:=rest) (o:=o) (a:=a) (Q:=Q) hgd 49 (.tmp 8) (.tmp 20) ho wr.heap.size (ay r).toArray hx hy old 49 (w:=wr) rfl (by rw[HIL.out];rfl) hold (all_oneCell_toArray (cC r))
   rw[<-e5]at hst
   have HST:=h_ hst
   have C5:=h_ (CO.out r hmem W5 h5.of h5.below)
   obtain⟨cs,ecs⟩:∃cs,cs=ay r:=⟨_,rfl⟩
   have HIL2:Hid ((Tryz.prog.info? 49).map (·.size)=some cs.length):=by show _=_;rw[ecs];exact HIL.out
   rw[<-ecs]at hr5
   have HM5:Hid (W5.rangeAt wr.heap.size 0 cs):=h_ (hr5.range (fun j v hj=>by rw[Nat.zero_add];exact hj))
   have ECS:=h_ ecs
   have CS:Hid (cs.toArray.size=25):=by show _=_;rw[ecs];rfl
   rw[<-ecs]at HC HST C5
   have HR5:=h_ hr5
   have H5:=h_ h5
   clear hcell er hra hnx e5 hr5 hb5 h5 hst ecs
   go_wp2_with (first|(refine wpList_load_mid rfl 49 (.tmp 19) rfl bA (off+k*25) rfl cs _ HC.out Tryz.underlying49 rfl HIL2.out ?_)|(refine HST.out _ _ _ _ _ rfl rfl rfl rfl _ (by simp[CS.out]) ?_;simp only[Act.put])|(refine wpList_load_mid rfl 49 (.tmp 8) rfl wr.heap.size 0 rfl cs _ HM5.out Tryz.underlying49 rfl HIL2.out ?_))
   refine C5.out.mono ?_
   rintro e w6 ⟨rfl,hb6⟩
   have HR6:Hid (Row w6 wr.heap.size 49 cs):=h_ (HR5.out.below hb6 (by omega))
   have H6:Hid (RA W parties l k w6):=h_ (H5.out.grow hb6)
   clear hb6 H5 HR5 HM5 HST C5
   have g1:=HR6.out.at (show cs[1]? =some (.int .i64 r.1.party) by rw[ECS.out];rfl)
   have g2:=HR6.out.at (show cs[2]? =some (.int .i64 r.1.number) by rw[ECS.out];rfl)
   have g3:=HR6.out.at (show cs[3]? =some (.int .i64 r.1.sent) by rw[ECS.out];rfl)
   have g24:=HR6.out.at (show cs[24]? =some (.string r.1.sum) by rw[ECS.out];rfl)
   obtain⟨cn,ecn⟩:∃cn,cn=aQ 2 parties r.1:=⟨_,rfl⟩
   rw[<-ecn]
   have ECN:=h_ ecn
   clear ecn
   cases cn with
   |false=>
    go_wp2_with fail
    go_roundw
    case rel=>
     refine⟨k+1,rfl,hkl,⟨?_,H6.out.of,H6.out.below⟩⟩
     rw[HNX.out]
     unfold dU
     rw[<-ECN.out]
     exact H6.out.map
    case measure=>simp[RowKit.intOf];omega
   |true=>
    obtain⟨W9,e9⟩:∃W9,W9=w6.alloc (.cells [.int .i64 r.1.party, .int .i64 r.1.number, .string r.1.sum].toArray 137):=⟨_,rfl⟩
    have z9:W9.heap.size=w6.heap.size+1:=by rw[e9];simp
    have hr9:Row W9 w6.heap.size 137 [.int .i64 r.1.party, .int .i64 r.1.number, .string r.1.sum]:=by rw[e9];exact Row.new _ _ _
    have hb9:Below w6.heap.size w6 W9:=by rw[e9];exact(Below.refl _ _).alloc (Nat.le_refl _) _
    have h9:=H6.out.grow hb9
    have hx9:=HR6.out.below hb9 HR6.out.lt
    have k3:=hx9.at (show cs[3]? =some (.int .i64 r.1.sent) by rw[ECS.out];rfl)
    have HM9:Hid (W9.rangeAt w6.heap.size 0 [.int .i64 r.1.party, .int .i64 r.1.number, .string r.1.sum]):=h_ (hr9.range (fun j v hj=>by rw[Nat.zero_add];exact hj))
    have H9:=h_ h9
    have HKA:=h_ (acc_key hok)
    have HST9:Hid (∀(Q:Exit->Act->World->Prop) (ops:Array Oper) (rest:List Oper) (o:Oper) (a:Act),o.guard=none->o.op= .store 137 (.tmp 9) (.tmp 32)->a.eval (.tmp 9)= .pointer (some ⟨w6.heap.size,0,none⟩)->a.eval (.tmp 32)= .agg #[.int .i64 r.1.party, .int .i64 r.1.number, .string r.1.sum]->∀old:Array Value,old.size=3->wpList Tryz.prog ops Q rest (a.put o.dst undef) W9->wpList Tryz.prog ops Q (o::rest) a (w6.alloc (.cells old 137))):=h_ (by
     intro Q ops rest o a hgd ho hx hy old hold hk
     rw[e9]at hk
     exact Hk.wpList_store_fresh hgd 137 (.tmp 9) (.tmp 32) ho w6.heap.size _ hx hy old 137 rfl (by rw[HIC.out];rfl) hold (all_oneCell_toArray (cs:= [.int .i64 r.1.party, .int .i64 r.1.number, .string r.1.sum]) (by intro v hv;simp at hv;rcases hv with rfl|rfl|rfl<;>rfl)) hk)
    have DONE:Hid (∀w10,(Mk.MapIs w10 aV aOk nV W.heap.size (Mk.put (dH parties (l.take k)) (r.1.slot,r.1.sum) r.1.sent)->W9.grownBy w10 (some W.heap.size)->dU parties (dH parties (l.take k)) r=Mk.put (dH parties (l.take k)) (r.1.slot,r.1.sum) r.1.sent->RA W parties l (k+1) w10)):=h_ fun w10 hm hg he=>by
     have hb:Below W.heap.size W9 w10:=aj hg (fun g hg=>by injection hg with e;omega) h9.below.size
     have hof:OfK w10 (W.heap.size+1) 2 parties:=by
      have hh:=h9.of
      have l1:=World.block_lt_of_cell? _ _ hh.k
      have l2:=World.block_lt_of_cell? _ _ hh.p
      exact⟨by rw[World.cell?_of_block (w:=W9) (hg.block _ l1 (fun e=>by injection e with e;exact absurd e (by simp)))];exact hh.k,by rw[World.cell?_of_block (w:=W9) (hg.block _ l2 (fun e=>by injection e with e;exact absurd e (by simp;omega)))];exact hh.p⟩
     exact⟨by rw[HNX.out,he];exact hm,hof,h9.below.trans hb⟩
    obtain⟨M,eM⟩:∃M,M=dH parties (l.take k):=⟨_,rfl⟩
    rw[<-eM]at DONE
    have HMM:Hid (Mk.MapIs W9 aV aOk nV W.heap.size M):=h_ (by rw[eM];exact h9.map)
    clear hr9 hb9 h9 hx9 e9 H6 HR6
    rcases G:Mk.get M (r.1.slot,r.1.sum)with _|d
    ·have HAC:Hid (dU parties M r=Mk.put M (r.1.slot,r.1.sum) r.1.sent):=h_ (by unfold dU;rw[<-ECN.out,G];rfl)
     have HG:=h_ G
     clear G
     go_wp2_with (first|(refine HST9.out _ _ _ _ _ rfl rfl rfl rfl _ (by simp) ?_;simp only[Act.put])|(refine wpList_load_mid rfl 137 (.tmp 9) rfl w6.heap.size 0 rfl _ _ HM9.out Tryz.underlying137 rfl HIC.out ?_)|(refine Mk.wpList_look rfl (.tmp 34) (.tmp 35) true rfl fo HMM.out Tryz.underlying77 (.int .i64 0) (fu _) (r.1.slot,r.1.sum) HKA.out rfl rfl ?_;rw[HG.out];simp only[Option.map_none,Option.getD_none,Option.isSome_none,if_true,Act.put])|(refine Mk.wpList_store rfl (.tmp 47) (.tmp 48) (.tmp 50) rfl fo HMM.out Tryz.underlying77 (r.1.slot,r.1.sum) HKA.out r.1.sent rfl rfl rfl ?_;intro w10 hm10 hg10 hz10;have HD:=h_ (DONE.out w10 hm10 hg10 HAC.out);clear hm10 hg10 hz10;simp only[Act.put]))
     go_roundw
     case rel=>exact⟨k+1,rfl,hkl,HD.out⟩
     case measure=>simp[RowKit.intOf];omega
    ·by_cases hd:r.1.sent<d
     ·have HAC:Hid (dU parties M r=Mk.put M (r.1.slot,r.1.sum) r.1.sent):=h_ (by unfold dU;rw[<-ECN.out,G];simp only[if_true];rw[if_pos hd])
      have HG:=h_ G
      clear G
      go_wp2_with (first|(refine HST9.out _ _ _ _ _ rfl rfl rfl rfl _ (by simp) ?_;simp only[Act.put])|(refine wpList_load_mid rfl 137 (.tmp 9) rfl w6.heap.size 0 rfl _ _ HM9.out Tryz.underlying137 rfl HIC.out ?_)|(refine Mk.wpList_look rfl (.tmp 34) (.tmp 35) true rfl fo HMM.out Tryz.underlying77 (.int .i64 0) (fu _) (r.1.slot,r.1.sum) HKA.out rfl rfl ?_;rw[HG.out];simp only[Option.map_some,Option.getD_some,Option.isSome_some,if_true,Act.put,nV])|(refine Mk.wpList_store rfl (.tmp 47) (.tmp 48) (.tmp 50) rfl fo HMM.out Tryz.underlying77 (r.1.slot,r.1.sum) HKA.out r.1.sent rfl rfl rfl ?_;intro w10 hm10 hg10 hz10;have HD:=h_ (DONE.out w10 hm10 hg10 HAC.out);clear hm10 hg10 hz10;simp only[Act.put]))
      go_roundw
      case rel=>exact⟨k+1,rfl,hkl,HD.out⟩
      case measure=>simp[RowKit.intOf];omega
     ·have HD:Hid (RA W parties l (k+1) W9):=h_ ⟨by rw[HNX.out, <-eM];unfold dU;rw[<-ECN.out,G];simp only[if_true];rw[if_neg hd];exact HMM.out,H9.out.of,H9.out.below⟩
      have HG:=h_ G
      clear G
      go_wp2_with (first|(refine HST9.out _ _ _ _ _ rfl rfl rfl rfl _ (by simp) ?_;simp only[Act.put])|(refine wpList_load_mid rfl 137 (.tmp 9) rfl w6.heap.size 0 rfl _ _ HM9.out Tryz.underlying137 rfl HIC.out ?_)|(refine Mk.wpList_look rfl (.tmp 34) (.tmp 35) true rfl fo HMM.out Tryz.underlying77 (.int .i64 0) (fu _) (r.1.slot,r.1.sum) HKA.out rfl rfl ?_;rw[HG.out];simp only[Option.map_some,Option.getD_some,Option.isSome_some,if_true,Act.put,nV]))
      go_roundw
      case rel=>exact⟨k+1,rfl,hkl,HD.out⟩
      case measure=>simp[RowKit.intOf];omega
  ·have hki: ¬(k:Int)<(l.length:Int):=by omega
   have ek:k=l.length:=by omega
   subst ek
   have HRA:=h_ hra
   clear hra
   go_wp2_with fail
   go_ret
   have:=HRA.out
   exact⟨rfl,by have h:=this.map;rwa[List.take_length]at h,this.below⟩
end Go.Proofs.YtekfoaenomgjgaaGreatDoor

namespace Go.Proofs.YtekfoaenomgjgaaGreatDoor
open Go.RowKit Go.W32 Go.Blk Go.Cs Go.Lib Go.Opn

theorem SD_size(t:ByteArray):(SD t).size=64:=by
 have e:(sumB KC t).data.toList.length=64:=by
  show(hexOf _).length=64
  simp[hexOf,S8.list,gE]
 rw[Array.length_toList]at e
 exact e
theorem DG_size(x:Let):(DG x).size<=64:=by
 unfold DG dig
 split
 ·exact Nat.le_of_eq (SD_size _)
 ·exact Nat.zero_le _
theorem DG_ok(x:Let):tOk (DG x):=by
 have:=DG_size x
 have h:maxLen=9223372036854775807:=rfl
 show(DG x).size<=maxLen
 omega
def pV(p:Pr):Value:= .agg (bd p).toArray
def prZero:Pr:=⟨⟨0,0,0,0,0,Pat.zero,⟨#[]⟩⟩,⟨none,0,none,0⟩,⟨#[]⟩,0⟩
theorem zero_pr(w:World):(zeroValue 81).run Tryz.prog w= .ok (pV prZero) w:=Tryz.zeroValue81 w
set_option maxHeartbeats 1000000 in
theorem exec_buildPr{ρ:Operand->Value}{op:Oper}{w:World}(x y:Operand)(ho:op.op= .build 81 #[(0,x),(1,y)])(r:Rl)(s:ByteArray)(hx:ρ x= .agg (ay r).toArray)(hy:ρ y= .string s):
  (execOp ρ op).run Tryz.prog w= .ok (.value (pV ⟨r.1,r.2,s,0⟩)) w:=by
 unfold execOp
 simp only[ho,hx,hy,List.map_toArray,List.map_cons,List.map_nil]
 unfold ay aw
 simp only[List.cons_append,List.nil_append]
 go_simp
 rfl
theorem props_snoc(parties:Int)(l:List Rl)(k:Nat)(hk:k<l.length):bl DG parties (l.take (k+1))=cX DG parties (bl DG parties (l.take k)) l[k]:=by
 unfold bl
 rw[List.take_add_one,List.getElem?_eq_getElem hk,Option.toList_some,List.foldl_append]
 rfl
structure RP (W:World) (parties:Int) (l:List Rl) (k:Nat) (w:World):Prop where
 map:Mk.MapIs w Value.string tOk pV W.heap.size (bl DG parties (l.take k))
 of:OfK w (W.heap.size+1) 1 parties
 below:Below W.heap.size W w
theorem RP.grow{W w w':World}{parties:Int}{l:List Rl}{k:Nat}(h:RP W parties l k w)(hb:Below w.heap.size w w'):RP W parties l k w':=
 ⟨h.map.keep (hb.block _ h.map.lt),h.of.below hb (Nat.le_refl _),h.below.trans (hb.mono h.below.size)⟩
set_option maxHeartbeats 4000000 in
theorem ps_any(parties:Int)(A:Option Addr)(c:Nat)(l:List Rl)(W:World)(hT:HasT W)(hl:LetsAt W A l)(hn:l.length<=4611686018427387903):
  Calls Tryz.prog 28 #[.int .i64 parties, .slice A l.length c] W fun e w'=>e= .returned (.map (some W.heap.size))/\Mk.MapIs w' Value.string tOk pV W.heap.size (bl DG parties l)/\Below W.heap.size W w':=by
 have hmm:= @run_makeMap Tryz.prog
 have CO:Hid (∀r∈l,∀w',OfK w' (W.heap.size+1) 1 parties->Below W.heap.size W w'->Calls Tryz.prog 74 #[.agg (ay r).toArray, .pointer (some ⟨W.heap.size+1,0,none⟩), .pointer (some ⟨W.heap.size+1+1,0,none⟩)] w' fun e w''=>e= .returned (.bool (aQ 1 parties r.1))/\Below w'.heap.size w' w''):=h_ fun r hr w' hk hb=>
  oc_any 1 parties r (W.heap.size+1) w' hk (hT.below hb (Nat.le_refl _)) ((hl.pat r hr).below hb (Nat.le_refl _)) (hl.ok r hr)
 have CD:Hid (∀r∈l,∀w',Below W.heap.size W w'->Calls Tryz.prog 15 #[.agg (ay r).toArray] w' fun e w''=>e= .returned (.string (DG r.1))/\Below w'.heap.size w' w''):=h_ fun r hr w' hb=>
  dg_any r w' (hT.below hb (Nat.le_refl _)) ((hl.pat r hr).below hb (Nat.le_refl _)) (hl.ok r hr)
 have m0:Mk.MapIs (W.alloc (.map #[] 0)) Value.string tOk pV W.heap.size ([]:List (ByteArray×Pr)):=Mk.MapIs.made W
 have b0:Below W.heap.size W (W.alloc (.map #[] 0)):=(Below.refl _ _).alloc (Nat.le_refl _) _
 have z0:(W.alloc (.map #[] 0)).heap.size=W.heap.size+1:=by simp
 have CF:=of_any 1 parties (W.alloc (.map #[] 0))
 rw[z0]at CF
 unfold ofV at CF
 have HIL:Hid ((Tryz.prog.info? 49).map (·.size)=some 25):=by show _=_;kernel_rfl
 have HIP:Hid ((Tryz.prog.info? 81).map (·.size)=some 27):=by show _=_;kernel_rfl
 have HL:=h_ hl
 have HM0:=h_ m0
 have HB0:=h_ b0
 clear hT hl m0 b0 z0
 go_enter Tryz.func28,Tryz.ntmps28
 go_wp2_with fail
 refine CF.mono ?_
 rintro e w1 ⟨rfl,hb1,hk1⟩
 have HR:Hid (RP W parties l 0 w1):=h_ ⟨HM0.out.keep (hb1.block _ (by simp)),hk1,HB0.out.trans (hb1.mono (by simp))⟩
 clear hb1 hk1 CF HM0 HB0
 go_wp2_with fail
 go_loopw [17] (fun v wr=> ∃k:Nat,v= .int .i64 (k:Int)/\k<=l.length/\RP W parties l k wr) (fun v _=>(l.length:Int).toNat- (RowKit.intOf v).toNat)
 case atStart=>exact⟨0,rfl,Nat.zero_le _,HR.out⟩
 case round=>
  clear HR
  obtain⟨k,rfl,hk,hra⟩:=hrel
  rcases Nat.lt_or_eq_of_le hk with hkl|hkl
  ·have hki:(k:Int)<(l.length:Int):=by omega
   obtain⟨bA,off,eA,hcell⟩:=HL.out.at hkl
   have HC:=h_ (dQ hcell hra.below (Nat.le_refl _))
   have hmem:l[k]∈l:=List.getElem_mem hkl
   have hok:=HL.out.ok _ hmem
   have hnx:=props_snoc parties l k hkl
   obtain⟨r,er⟩:∃r,r=l[k]:=⟨_,rfl⟩
   rw[<-er]at HC hmem hok hnx
   rw[eA]
   have HRA:=h_ hra
   have HNX:=h_ hnx
   obtain⟨W5,e5⟩:∃W5,W5=wr.alloc (.cells (ay r).toArray 49):=⟨_,rfl⟩
   have z5:W5.heap.size=wr.heap.size+1:=by rw[e5];simp
   have hr5:Row W5 wr.heap.size 49 (ay r):=by rw[e5];exact Row.new _ _ _
   have hb5:Below wr.heap.size wr W5:=by rw[e5];exact(Below.refl _ _).alloc (Nat.le_refl _) _
   have h5:RP W parties l k W5:=hra.grow hb5
   have hst:=fun(Q:Exit->Act->World->Prop) (ops:Array Oper) (rest:List Oper) (o:Oper) (a:Act) (hgd:o.guard=none) (ho:o.op= .store 49 (.tmp 8) (.tmp 20)) (hx:a.eval (.tmp 8)= .pointer (some ⟨wr.heap.size,0,none⟩)) (hy:a.eval (.tmp 20)= .agg (ay r).toArray) (old:Array Value) (hold:old.size=(ay r).toArray.size)=>
    Hk.wpList_store_fresh (P:=Tryz.prog) (ops:=ops) (rest:=rest) (o:=o) (a:=a) (Q:=Q) hgd 49 (.tmp 8) (.tmp 20) ho wr.heap.size (ay r).toArray hx hy old 49 (w:=wr) rfl (by rw[HIL.out];rfl) hold (all_oneCell_toArray (cC r))
   rw[<-e5]at hst
   have HST:=h_ hst
   have C5:=h_ (CO.out r hmem W5 h5.of h5.below)
   have CDR:=h_ (CD.out r hmem)
   obtain⟨cs,ecs⟩:∃cs,cs=ay r:=⟨_,rfl⟩
   have HIL2:Hid ((Tryz.prog.info? 49).map (·.size)=some cs.length):=by show _=_;rw[ecs];exact HIL.out
   rw[<-ecs]at hr5
   have HM5:Hid (W5.rangeAt wr.heap.size 0 cs):=h_ (hr5.range (fun j v hj=>by rw[Nat.zero_add];exact hj))
   have ECS:=h_ ecs
   have CS:Hid (cs.toArray.size=25):=by show _=_;rw[ecs];rfl
   rw[<-ecs]at HC HST C5 CDR
   have HR5:=h_ hr5
   have H5:=h_ h5
   clear hcell er hra hnx e5 hr5 hb5 h5 hst ecs
   go_wp2_with (first|(refine wpList_load_mid rfl 49 (.tmp 19) rfl bA (off+k*25) rfl cs _ HC.out Tryz.underlying49 rfl HIL2.out ?_)|(refine HST.out _ _ _ _ _ rfl rfl rfl rfl _ (by simp[CS.out]) ?_;simp only[Act.put])|(refine wpList_load_mid rfl 49 (.tmp 8) rfl wr.heap.size 0 rfl cs _ HM5.out Tryz.underlying49 rfl HIL2.out ?_))
   refine C5.out.mono ?_
   rintro e w6 ⟨rfl,hb6⟩
   have HR6:Hid (Row w6 wr.heap.size 49 cs):=h_ (HR5.out.below hb6 (by omega))
   have H6:Hid (RP W parties l k w6):=h_ (H5.out.grow hb6)
   clear hb6 H5 HR5 HM5 HST C5
   obtain⟨cn,ecn⟩:∃cn,cn=aQ 1 parties r.1:=⟨_,rfl⟩
   rw[<-ecn]
   have ECN:=h_ ecn
   clear ecn
   cases cn with
   |false=>
    go_wp2_with fail
    go_roundw
    case rel=>
     refine⟨k+1,rfl,hkl,⟨?_,H6.out.of,H6.out.below⟩⟩
     rw[HNX.out]
     unfold cX
     rw[<-ECN.out]
     exact H6.out.map
    case measure=>simp[RowKit.intOf];omega
   |true=>
    have HM6:Hid (w6.rangeAt wr.heap.size 0 cs):=h_ (HR6.out.range (fun j v hj=>by rw[Nat.zero_add];exact hj))
    have C6:=h_ (CDR.out w6 H6.out.below)
    go_wp2_with (refine wpList_load_mid rfl 49 (.tmp 8) rfl wr.heap.size 0 rfl cs _ HM6.out Tryz.underlying49 rfl HIL2.out ?_)
    refine C6.out.mono ?_
    rintro e w7 ⟨rfl,hb7⟩
    have HR7:Hid (Row w7 wr.heap.size 49 cs):=h_ (HR6.out.below hb7 HR6.out.lt)
    have H7:Hid (RP W parties l k w7):=h_ (H6.out.grow hb7)
    clear hb7 H6 HR6 HM6 C6 CDR
    obtain⟨M,eM⟩:∃M,M=bl DG parties (l.take k):=⟨_,rfl⟩
    obtain⟨D,eD⟩:∃D,D=DG r.1:=⟨_,rfl⟩
    have HKD:Hid (tOk D):=h_ (by rw[eD];exact DG_ok _)
    obtain⟨q,eq⟩:∃q,q=(Mk.get M D).getD prZero:=⟨_,rfl⟩
    obtain⟨fd,efd⟩:∃fd,fd=(Mk.get M D).isSome:=⟨_,rfl⟩
    have HMM7:Hid (Mk.MapIs w7 Value.string tOk pV W.heap.size M):=h_ (by rw[eM];exact H7.out.map)
    have HLK:Hid (((Mk.get M D).map pV).getD (pV prZero)=pV q):=h_ (by rw[eq];cases Mk.get M D<;>rfl)
    have HFD:=h_ efd
    obtain⟨os,eos⟩:∃os,os=bd q:=⟨_,rfl⟩
    have hpq:pV q= .agg os.toArray:=by rw[eos];rfl
    have hone:∀v∈os,v.oneCell'=true:=by rw[eos];exact bX q
    have hosl:os.length=27:=by rw[eos];rfl
    obtain⟨W9,e9⟩:∃W9,W9=w7.alloc (.cells os.toArray 81):=⟨_,rfl⟩
    have hr9:Row W9 w7.heap.size 81 os:=by rw[e9];exact Row.new _ _ _
    have hb9:Below w7.heap.size w7 W9:=by rw[e9];exact(Below.refl _ _).alloc (Nat.le_refl _) _
    have h9:=H7.out.grow hb9
    have hx9:=HR7.out.below hb9 HR7.out.lt
    have k3:=hx9.at (show cs[3]? =some (.int .i64 r.1.sent) by rw[ECS.out];rfl)
    have o3:=hr9.at (show os[3]? =some (.int .i64 q.x.sent) by rw[eos];rfl)
    have HM9:Hid (W9.rangeAt wr.heap.size 0 cs):=h_ (hx9.range (fun j v hj=>by rw[Nat.zero_add];exact hj))
    have HMM9:Hid (Mk.MapIs W9 Value.string tOk pV W.heap.size M):=h_ (by rw[eM];exact h9.map)
    have H9:=h_ h9
    have HST9:Hid (∀(Q:Exit->Act->World->Prop) (ops:Array Oper) (rest:List Oper) (o:Oper) (a:Act),o.guard=none->o.op= .store 81 (.tmp 10) (.tmp 31)->a.eval (.tmp 10)= .pointer (some ⟨w7.heap.size,0,none⟩)->a.eval (.tmp 31)= .agg os.toArray->∀old:Array Value,old.size=27->wpList Tryz.prog ops Q rest (a.put o.dst undef) W9->wpList Tryz.prog ops Q (o::rest) a (w7.alloc (.cells old 81))):=h_ (by
     intro Q ops rest o a hgd ho hx hy old hold hk
     rw[e9]at hk
     exact Hk.wpList_store_fresh hgd 81 (.tmp 10) (.tmp 31) ho w7.heap.size _ hx hy old 81 rfl (by rw[HIP.out];simp[hosl]) (by rw[hold];simp[hosl]) (all_oneCell_toArray hone) hk)
    have DONE:Hid (∀w10,(Mk.MapIs w10 Value.string tOk pV W.heap.size (Mk.put M D ⟨r.1,r.2,D,0⟩)->W9.grownBy w10 (some W.heap.size)->cX DG parties M r=Mk.put M D ⟨r.1,r.2,D,0⟩->RP W parties l (k+1) w10)):=h_ fun w10 hm hg he=>by
     have hb:Below W.heap.size W9 w10:=aj hg (fun g hg=>by injection hg with e;omega) h9.below.size
     have hof:OfK w10 (W.heap.size+1) 1 parties:=by
      have hh:=h9.of
      have l1:=World.block_lt_of_cell? _ _ hh.k
      have l2:=World.block_lt_of_cell? _ _ hh.p
      exact⟨by rw[World.cell?_of_block (w:=W9) (hg.block _ l1 (fun e=>by injection e with e;exact absurd e (by simp)))];exact hh.k,by rw[World.cell?_of_block (w:=W9) (hg.block _ l2 (fun e=>by injection e with e;exact absurd e (by simp;omega)))];exact hh.p⟩
     exact⟨by rw[HNX.out, <-eM,he];exact hm,hof,h9.below.trans hb⟩
    have HEN:Hid (∀ {ρ:Operand->Value} {op:Oper} {w:World} (ho:op.op= .build 81 #[(0, .tmp 45),(1, .tmp 46)]) (hx:ρ (.tmp 45)= .agg cs.toArray) (hy:ρ (.tmp 46)= .string D),(execOp ρ op).run Tryz.prog w= .ok (.value (pV ⟨r.1,r.2,D,0⟩)) w):=h_ fun ho hx hy=>exec_buildPr _ _ ho r D (by rw[hx,ECS.out]) hy
    have STEP:cX DG parties M r=match Mk.get M D with|some o=>if r.1.sent<o.x.sent then Mk.put M D ⟨r.1,r.2,D,0⟩else M|none=>Mk.put M D ⟨r.1,r.2,D,0⟩:=by unfold cX;rw[<-ECN.out,eD];rfl
    obtain⟨Z,eZ⟩:∃Z,Z=pV ⟨r.1,r.2,D,0⟩:=⟨_,rfl⟩
    rw[<-eD]
    rw[hpq]at HLK
    rw[<-eZ]at HEN
    have EZ:=h_ eZ
    have EM:=h_ eM
    clear hr9 hb9 h9 hx9 e9 H7 HR7 eD hpq hone eos eM eZ
    rcases G:Mk.get M D with _|o
    ·rw[G]at efd STEP
     have HAC:=h_ STEP
     rw[G]at HLK HFD
     have HG:=h_ G
     clear G efd STEP eq
     go_wp2_with (first|(refine HST9.out _ _ _ _ _ rfl rfl rfl rfl _ (by simp) ?_;simp only[Act.put])|(refine Mk.wpList_look rfl (.tmp 28) (.tmp 29) true rfl dC HMM7.out Tryz.underlying75 (pV prZero) (zero_pr _) D HKD.out rfl rfl ?_;rw[HG.out,HLK.out];simp only[Option.isSome_none,if_true,Act.put])|(refine wpList_load_mid rfl 49 (.tmp 8) rfl wr.heap.size 0 rfl cs _ HM9.out Tryz.underlying49 rfl HIL2.out ?_)|(refine Row.still rfl (HEN.out rfl rfl rfl) ?_;simp only[Act.put])|(refine Mk.wpList_store rfl (.tmp 43) (.tmp 44) (.tmp 47) rfl dC HMM9.out Tryz.underlying75 D HKD.out ⟨r.1,r.2,D,0⟩ rfl rfl EZ.out ?_;intro w10 hm10 hg10 hz10;have HD:=h_ (DONE.out w10 hm10 hg10 HAC.out);clear hm10 hg10 hz10;simp only[Act.put]))
     go_roundw
     case rel=>exact⟨k+1,rfl,hkl,HD.out⟩
     case measure=>simp[RowKit.intOf];omega
    ·rw[G]at eq STEP HLK
     have eqo:q=o:=eq
     subst eqo
     by_cases hd:r.1.sent<q.x.sent
     ·have HAC:Hid (cX DG parties M r=Mk.put M D ⟨r.1,r.2,D,0⟩):=h_ (by rw[STEP];simp only[];rw[if_pos hd])
      have HG:=h_ G
      clear G efd STEP eq
      go_wp2_with (first|(refine HST9.out _ _ _ _ _ rfl rfl rfl rfl _ (by simp) ?_;simp only[Act.put])|(refine Mk.wpList_look rfl (.tmp 28) (.tmp 29) true rfl dC HMM7.out Tryz.underlying75 (pV prZero) (zero_pr _) D HKD.out rfl rfl ?_;rw[HG.out,HLK.out];simp only[Option.isSome_some,if_true,Act.put])|(refine wpList_load_mid rfl 49 (.tmp 8) rfl wr.heap.size 0 rfl cs _ HM9.out Tryz.underlying49 rfl HIL2.out ?_)|(refine Row.still rfl (HEN.out rfl rfl rfl) ?_;simp only[Act.put])|(refine Mk.wpList_store rfl (.tmp 43) (.tmp 44) (.tmp 47) rfl dC HMM9.out Tryz.underlying75 D HKD.out ⟨r.1,r.2,D,0⟩ rfl rfl EZ.out ?_;intro w10 hm10 hg10 hz10;have HD:=h_ (DONE.out w10 hm10 hg10 HAC.out);clear hm10 hg10 hz10;simp only[Act.put]))
      go_roundw
      case rel=>exact⟨k+1,rfl,hkl,HD.out⟩
      case measure=>simp[RowKit.intOf];omega
     ·have HD:Hid (RP W parties l (k+1) W9):=h_ ⟨by rw[HNX.out, <-EM.out,STEP];simp only[];rw[if_neg hd];exact HMM9.out,H9.out.of,H9.out.below⟩
      have HG:=h_ G
      clear G efd STEP eq
      go_wp2_with (first|(refine HST9.out _ _ _ _ _ rfl rfl rfl rfl _ (by simp) ?_;simp only[Act.put])|(refine Mk.wpList_look rfl (.tmp 28) (.tmp 29) true rfl dC HMM7.out Tryz.underlying75 (pV prZero) (zero_pr _) D HKD.out rfl rfl ?_;rw[HG.out,HLK.out];simp only[Option.isSome_some,if_true,Act.put]))
      go_roundw
      case rel=>exact⟨k+1,rfl,hkl,HD.out⟩
      case measure=>simp[RowKit.intOf];omega
  ·have hki: ¬(k:Int)<(l.length:Int):=by omega
   have ek:k=l.length:=by omega
   subst ek
   have HRA:=h_ hra
   clear hra
   go_wp2_with fail
   go_ret
   have:=HRA.out
   exact⟨rfl,by have h:=this.map;rwa[List.take_length]at h,this.below⟩
end Go.Proofs.YtekfoaenomgjgaaGreatDoor

namespace Go.Proofs.YtekfoaenomgjgaaGreatDoor
open Go.RowKit Go.W32 Go.Blk Go.Cs Go.Lib Go.Opn Go.Mg

theorem info_int:(Tryz.prog.info? 3).map (fun i=>(i.zero,i.size,i.bytes))=some (some (.int .i64 0),1,8):=by kernel_rfl
theorem zero_ints(w:World):(zeroValue 22).run Tryz.prog w= .ok (.slice none 0 0) w:=Tryz.zeroValue22 w
theorem slot_ok{x:Let}(h:LetOk x):sOk x.slot:=⟨h.nums.2.1,h.nums.2.2.1⟩
theorem wds_snoc(parties:Int)(l:List Rl)(k:Nat)(hk:k<l.length):wds parties (l.take (k+1))=if aQ 3 parties l[k].1 then grp (fun r:Rl=>r.1.slot) (fun r=>r.1.sent) (wds parties (l.take k)) l[k]else wds parties (l.take k):=by
 unfold wds
 rw[List.take_add_one,List.getElem?_eq_getElem hk,Option.toList_some,List.filter_append]
 have e: [l[k]].filter (fun r=>aQ 3 parties r.1)=if aQ 3 parties l[k].1 then [l[k]]else []:=by simp[List.filter_cons]
 rw[e]
 cases aQ 3 parties l[k].1 with
 |true=>rw[if_pos rfl,if_pos rfl,bN]
 |false=>rw[if_neg (by simp),if_neg (by simp),List.append_nil]
theorem wds_len(parties:Int)(l:List Rl){s:dy}{g:List Int}(h:(s,g)∈wds parties l):g.length<=l.length:=by
 rw[((cg _ _ _).1 h).1,List.length_map]
 exact Nat.le_trans (List.length_filter_le _ _) (List.length_filter_le _ _)
structure RD (W:World) (parties:Int) (l:List Rl) (k:Nat) (w:World):Prop where
 map:∃L,Groups w sV sOk encI (W.heap.size+3) 3 1 W.heap.size L/\bQ L=wds parties (l.take k)
 of:OfK w (W.heap.size+1) 3 parties
 below:Below W.heap.size W w
 size:W.heap.size+3<=w.heap.size
theorem RD.grow{W w w':World}{parties:Int}{l:List Rl}{k:Nat}(h:RD W parties l k w)(hb:Below w.heap.size w w'):RD W parties l k w':=by
 obtain⟨L,hg,hL⟩:=h.map
 exact⟨⟨L,hg.keep (hb.block _ hg.map.lt) (fun g _ hg=>hb.block _ hg),hL⟩,h.of.below hb (Nat.le_refl _),h.below.trans (hb.mono h.below.size),Nat.le_trans h.size hb.size⟩
set_option maxHeartbeats 600000 in
theorem wd_any(parties:Int)(A:Option Addr)(c:Nat)(l:List Rl)(W:World)(hT:HasT W)(hl:LetsAt W A l)(hn:l.length<=4000):
  Calls Tryz.prog 31 #[.int .i64 parties, .slice A l.length c] W fun e w'=>e= .returned (.map (some W.heap.size))/\(∃L,Groups w' sV sOk encI (W.heap.size+3) 3 1 W.heap.size L/\bQ L=wds parties l)/\Below W.heap.size W w':=by
 have hmm:= @run_makeMap Tryz.prog
 have CO:Hid (∀r∈l,∀w',OfK w' (W.heap.size+1) 3 parties->Below W.heap.size W w'->Calls Tryz.prog 74 #[.agg (ay r).toArray, .pointer (some ⟨W.heap.size+1,0,none⟩), .pointer (some ⟨W.heap.size+1+1,0,none⟩)] w' fun e w''=>e= .returned (.bool (aQ 3 parties r.1))/\Below w'.heap.size w' w''):=h_ fun r hr w' hk hb=>
  oc_any 3 parties r (W.heap.size+1) w' hk (hT.below hb (Nat.le_refl _)) ((hl.pat r hr).below hb (Nat.le_refl _)) (hl.ok r hr)
 have m0:Groups (W.alloc (.map #[] 0)) sV sOk encI (W.heap.size+3) 3 1 W.heap.size ([]:List (dy×(Value×List Int))):=Groups.made W
 have b0:Below W.heap.size W (W.alloc (.map #[] 0)):=(Below.refl _ _).alloc (Nat.le_refl _) _
 have z0:(W.alloc (.map #[] 0)).heap.size=W.heap.size+1:=by simp
 have CF:=of_any 3 parties (W.alloc (.map #[] 0))
 rw[z0]at CF
 unfold ofV at CF
 have HIL:Hid ((Tryz.prog.info? 49).map (·.size)=some 25):=by show _=_;kernel_rfl
 have HIS:Hid ((Tryz.prog.info? 84).map (·.size)=some 2):=by show _=_;kernel_rfl
 have HL:=h_ hl
 have HM0:=h_ m0
 have HB0:=h_ b0
 clear hT hl m0 b0 z0
 go_enter Tryz.func31,Tryz.ntmps31
 go_wp2_with fail
 refine CF.mono ?_
 rintro e w1 ⟨rfl,hb1,hk1⟩
 have HR:Hid (RD W parties l 0 w1):=h_ ⟨⟨[],HM0.out.keep (hb1.block _ (by simp)) (fun g hg hgl=>by simp at hgl;omega),rfl⟩,hk1,HB0.out.trans (hb1.mono (by simp)),by have:=World.block_lt_of_cell? _ _ hk1.p;simp at this;omega⟩
 clear hb1 hk1 CF HM0 HB0
 go_wp2_with fail
 go_loopw [15] (fun v wr=> ∃k:Nat,v= .int .i64 (k:Int)/\k<=l.length/\RD W parties l k wr) (fun v _=>(l.length:Int).toNat- (RowKit.intOf v).toNat)
 case atStart=>exact⟨0,rfl,Nat.zero_le _,HR.out⟩
 case round=>
  clear HR
  obtain⟨k,rfl,hk,hra⟩:=hrel
  rcases Nat.lt_or_eq_of_le hk with hkl|hkl
  ·have hki:(k:Int)<(l.length:Int):=by omega
   obtain⟨bA,off,eA,hcell⟩:=HL.out.at hkl
   have HC:=h_ (dQ hcell hra.below (Nat.le_refl _))
   have hmem:l[k]∈l:=List.getElem_mem hkl
   have hok:=HL.out.ok _ hmem
   have hnx:=wds_snoc parties l k hkl
   obtain⟨r,er⟩:∃r,r=l[k]:=⟨_,rfl⟩
   rw[<-er]at HC hmem hok hnx
   rw[eA]
   have HRA:=h_ hra
   have HNX:=h_ hnx
   obtain⟨W5,e5⟩:∃W5,W5=wr.alloc (.cells (ay r).toArray 49):=⟨_,rfl⟩
   have z5:W5.heap.size=wr.heap.size+1:=by rw[e5];simp
   have hr5:Row W5 wr.heap.size 49 (ay r):=by rw[e5];exact Row.new _ _ _
   have hb5:Below wr.heap.size wr W5:=by rw[e5];exact(Below.refl _ _).alloc (Nat.le_refl _) _
   have h5:RD W parties l k W5:=hra.grow hb5
   have hst:=fun(Q:Exit->Act->World->Prop) (ops:Array Oper) (rest:List Oper) (o:Oper) (a:Act) (hgd:o.guard=none) (ho:o.op= .store 49 (.tmp 8) (.tmp 18)) (hx:a.eval (.tmp 8)= .pointer (some ⟨wr.heap.size,0,none⟩)) (hy:a.eval (.tmp 18)= .agg (ay r).toArray) (old:Array Value) (hold:old.size=(ay r).toArray.size)=>
    Hk.wpList_store_fresh (P:=Tryz.prog) (ops:=ops) (rest:=rest) (o:=o) (a:=a) (Q:=Q) hgd 49 (.tmp 8) (.tmp 18) ho wr.heap.size (ay r).toArray hx hy old 49 (w:=wr) rfl (by rw[HIL.out];rfl) hold (all_oneCell_toArray (cC r))
   rw[<-e5]at hst
   have HST:=h_ hst
   have C5:=h_ (CO.out r hmem W5 h5.of h5.below)
   obtain⟨cs,ecs⟩:∃cs,cs=ay r:=⟨_,rfl⟩
   have HIL2:Hid ((Tryz.prog.info? 49).map (·.size)=some cs.length):=by show _=_;rw[ecs];exact HIL.out
   rw[<-ecs]at hr5
   have HM5:Hid (W5.rangeAt wr.heap.size 0 cs):=h_ (hr5.range (fun j v hj=>by rw[Nat.zero_add];exact hj))
   have ECS:=h_ ecs
   have CS:Hid (cs.toArray.size=25):=by show _=_;rw[ecs];rfl
   rw[<-ecs]at HC HST C5
   have HR5:=h_ hr5
   have H5:=h_ h5
   clear hcell er hra hnx e5 hr5 hb5 h5 hst ecs
   go_wp2_with (first|(refine ae (.tmp 17) ?_;refine wpList_load_mid rfl 49 (.tmp 17) rfl bA (off+k*25) rfl cs _ HC.out Tryz.underlying49 rfl HIL2.out ?_)|(refine ai (.tmp 8) ?_;refine HST.out _ _ _ _ _ rfl rfl rfl rfl _ (by simp[CS.out]) ?_;simp only[Act.put])|(refine ae (.tmp 8) ?_;refine wpList_load_mid rfl 49 (.tmp 8) rfl wr.heap.size 0 rfl cs _ HM5.out Tryz.underlying49 rfl HIL2.out ?_))
   refine C5.out.mono ?_
   rintro e w6 ⟨rfl,hb6⟩
   have HR6:Hid (Row w6 wr.heap.size 49 cs):=h_ (HR5.out.below hb6 (by omega))
   have H6:Hid (RD W parties l k w6):=h_ (H5.out.grow hb6)
   clear hb6 H5 HR5 HM5 HST C5
   have g1:=HR6.out.at (show cs[1]? =some (.int .i64 r.1.party) by rw[ECS.out];rfl)
   have g2:=HR6.out.at (show cs[2]? =some (.int .i64 r.1.number) by rw[ECS.out];rfl)
   obtain⟨cn,ecn⟩:∃cn,cn=aQ 3 parties r.1:=⟨_,rfl⟩
   rw[<-ecn]
   have ECN:=h_ ecn
   clear ecn
   cases cn with
   |false=>
    go_wp2_with fail
    go_roundw
    case rel=>
     obtain⟨L,hg,hL⟩:=H6.out.map
     refine⟨k+1,rfl,hkl,⟨⟨L,hg, ?_⟩,H6.out.of,H6.out.below,H6.out.size⟩⟩
     rw[HNX.out, <-ECN.out,hL];rfl
    case measure=>simp[RowKit.intOf];omega
   |true=>
    obtain⟨W9,e9⟩:∃W9,W9=w6.alloc (.cells [.int .i64 r.1.party, .int .i64 r.1.number].toArray 84):=⟨_,rfl⟩
    have z9:W9.heap.size=w6.heap.size+1:=by rw[e9];simp
    have hr9:Row W9 w6.heap.size 84 [.int .i64 r.1.party, .int .i64 r.1.number]:=by rw[e9];exact Row.new _ _ _
    have hb9:Below w6.heap.size w6 W9:=by rw[e9];exact(Below.refl _ _).alloc (Nat.le_refl _) _
    have h9:=H6.out.grow hb9
    have hx9:=HR6.out.below hb9 HR6.out.lt
    have k3:=hx9.at (show cs[3]? =some (.int .i64 r.1.sent) by rw[ECS.out];rfl)
    have HM9:Hid (W9.rangeAt w6.heap.size 0 [.int .i64 r.1.party, .int .i64 r.1.number]):=h_ (hr9.range (fun j v hj=>by rw[Nat.zero_add];exact hj))
    have HKA:=h_ (slot_ok hok)
    have HST9:Hid (∀(Q:Exit->Act->World->Prop) (ops:Array Oper) (rest:List Oper) (o:Oper) (a:Act),o.guard=none->o.op= .store 84 (.tmp 9) (.tmp 26)->a.eval (.tmp 9)= .pointer (some ⟨w6.heap.size,0,none⟩)->a.eval (.tmp 26)= .agg #[.int .i64 r.1.party, .int .i64 r.1.number]->∀old:Array Value,old.size=2->wpList Tryz.prog ops Q rest (a.put o.dst undef) W9->wpList Tryz.prog ops Q (o::rest) a (w6.alloc (.cells old 84))):=h_ (by
     intro Q ops rest o a hgd ho hx hy old hold hk
     rw[e9]at hk
     exact Hk.wpList_store_fresh hgd 84 (.tmp 9) (.tmp 26) ho w6.heap.size _ hx hy old 84 rfl (by rw[HIS.out];rfl) hold (all_oneCell_toArray (cs:= [.int .i64 r.1.party, .int .i64 r.1.number]) (by intro v hv;simp at hv;rcases hv with rfl|rfl<;>rfl)) hk)
    obtain⟨L,hg9,hL⟩:=h9.map
    have h9z:=h9.size
    have hbA:Below W9.heap.size W9 (W9.alloc (.cells #[.int .i64 r.1.sent] 3)):=(Below.refl _ _).alloc (Nat.le_refl _) _
    have hgA:Groups (W9.alloc (.cells #[.int .i64 r.1.sent] 3)) sV sOk encI (W.heap.size+3) 3 1 W.heap.size L:=hg9.keep (hbA.block _ hg9.map.lt) (fun g _ hg=>hbA.block _ hg)
    have hlen:∀p∈L,p.2.2.length+1<=maxLen/\(p.2.2.length+1)*8<=140737488355328:=fun p hp=>by
     have:(p.1,p.2.2)∈wds parties (l.take k):=by rw[<-hL];exact List.mem_map.2 ⟨p,hp,rfl⟩
     have:=wds_len _ _ this
     rw[List.length_take]at this
     unfold maxLen
     omega
    have HGA:=h_ hgA
    have HLEN:=h_ hlen
    have DONE:Hid (∀u w10,Groups w10 sV sOk encI (W.heap.size+3) 3 1 W.heap.size (Mk.put L r.1.slot (u,((Mk.get L r.1.slot).map Prod.snd).getD []++ [r.1.sent]))->Oth (W.heap.size+3) W.heap.size (W9.alloc (.cells #[.int .i64 r.1.sent] 3)) w10->RD W parties l (k+1) w10):=h_ fun u w10 hg ho=>by
     have hA:=h9.grow hbA
     have l1:=World.block_lt_of_cell? _ _ hA.of.k
     have l2:=World.block_lt_of_cell? _ _ hA.of.p
     refine⟨⟨_,hg, ?_⟩,⟨by rw[World.cell?_of_block (ho.block _ (by show W.heap.size+1<_;omega) (by show W.heap.size+1≠_;omega))];exact hA.of.k,by rw[World.cell?_of_block (ho.block _ (by show W.heap.size+1+1<_;omega) (by show W.heap.size+1+1≠_;omega))];exact hA.of.p⟩,hA.below.trans (ho.below (by omega) (Nat.le_refl _)),Nat.le_trans hA.size ho.size⟩
     rw[fF,HNX.out, <-ECN.out, <-hL]
     simp only[if_true]
     unfold grp
     rw[dE]
    obtain⟨i0,hi0,hz0,hs0,hy0⟩:=bG info_int
    have HI0:=h_ hi0
    have HZ0:=h_ hz0
    have HS0:=h_ hs0
    have HY0:=h_ hy0
    have HBS:Hid (W.heap.size+3<=(W9.alloc (.cells #[.int .i64 r.1.sent] 3)).heap.size):=h_ (by simp;omega)
    have HNE:Hid (w6.heap.size+1≠W.heap.size):=h_ (by omega)
    have HC1:Hid (∀(j:Nat) u,(encI r.1.sent)[j]? =some u->(W9.alloc (.cells #[.int .i64 r.1.sent] 3)).cell? ((⟨w6.heap.size+1,0,none⟩:Addr).add j)=some u):=h_ (by rw[<-z9];exact cell_one_new _ _ _)
    have HGRP:Hid (∀(Q:Exit->Act->World->Prop) (ops:Array Oper) (rest:List Oper) (o1 o2 o3 o4 o5:Oper) (a:Act),o1.guard=none->o1.op= .mapEntry 86 (.tmp 27) (.tmp 28)->o1.dst=some 33->o2.guard=none->o2.op= .extract (.tmp 33) 0->o2.dst=some 29->o3.guard=none->o3.op= .call {callee:= .builtin .append,args:= #[.tmp 29, .tmp 32],argTypes:= #[22,22]}->o3.dst=some 34->o4.guard=none->o4.op= .extract (.tmp 33) 1->o4.dst=some 35->o5.guard=none->o5.op= .entryStore 86 (.tmp 27) (.tmp 35) (.tmp 34)->o5.dst=none->
      a.eval (.tmp 27)= .map (some W.heap.size)->a.eval (.tmp 28)= .agg #[.int .i64 r.1.party, .int .i64 r.1.number]->(∀u1,(a.put (some 33) u1).eval (.tmp 33)=u1)->(∀u1 u2,((a.put (some 33) u1).put (some 29) u2).eval (.tmp 29)=u2/\((a.put (some 33) u1).put (some 29) u2).eval (.tmp 32)= .slice (some ⟨w6.heap.size+1,0,none⟩) 1 1)->
      (∀u1 u2 u3,(((a.put (some 33) u1).put (some 29) u2).put (some 34) u3).eval (.tmp 33)=u1)->(∀u1 u2 u3 u4,((((a.put (some 33) u1).put (some 29) u2).put (some 34) u3).put (some 35) u4).eval (.tmp 27)= .map (some W.heap.size)/\((((a.put (some 33) u1).put (some 29) u2).put (some 34) u3).put (some 35) u4).eval (.tmp 35)=u4/\((((a.put (some 33) u1).put (some 29) u2).put (some 34) u3).put (some 35) u4).eval (.tmp 34)=u3)->
      (∀u1 u2 u3 u4 w',Hid (RD W parties l (k+1) w')->wpList Tryz.prog ops Q rest (((((a.put (some 33) u1).put (some 29) u2).put (some 34) u3).put (some 35) u4).put none undef) w')->wpList Tryz.prog ops Q (o1::o2::o3::o4::o5::rest) a (W9.alloc (.cells #[.int .i64 r.1.sent] 3))):=h_ (by
     intro Q ops rest o1 o2 o3 o4 o5 a q1 q2 q3 q4 q5 q6 q7 q8 q9 q10 q11 q12 q13 q14 q15 q16 q17 q18 q19 q20 q21 hK
     exact fx key_slot Tryz.underlying86 Tryz.underlying22 i0 (.int .i64 0) 8 HI0.out HZ0.out HS0.out HY0.out rfl (by decide) (zero_ints _) HGA.out (by omega) r.1.slot HKA.out r.1.sent rfl (by intro u hu;simp[encI]at hu;subst hu;rfl) (.tmp 27) (.tmp 28) (.tmp 32) 33 29 34 35 ⟨w6.heap.size+1,0,none⟩ 1 HC1.out HNE.out HLEN.out (by decide) HBS.out q1 q2 q3 q4 q5 q6 q7 q8 q9 q10 q11 q12 q13 q14 q15 q16 q17 q18 q19 q20 q21 fun u1 u2 u3 u4 w10 hg10 ho10=>hK u1 u2 u3 u4 w10 (h_ (DONE.out u3 w10 hg10 ho10)))
    clear hr9 hb9 h9 hx9 e9 H6 HR6 hg9 hL hbA hgA hlen hi0 hz0 hs0 hy0
    go_wp2_with (first|(refine ai (.tmp 9) ?_;refine HST9.out _ _ _ _ _ rfl rfl rfl rfl _ (by simp) ?_;simp only[Act.put])|(refine ae (.tmp 9) ?_;refine wpList_load_mid rfl 84 (.tmp 9) rfl w6.heap.size 0 rfl _ _ HM9.out Tryz.underlying84 rfl HIS.out ?_)|(refine at_entry ?_;refine HGRP.out _ _ _ _ _ _ _ _ _ rfl rfl rfl rfl rfl rfl rfl rfl rfl rfl rfl rfl rfl rfl rfl rfl rfl (fun _=>rfl) (fun _ _=>by simp only[Pt];exact⟨rfl,rfl⟩) (fun _ _ _=>by simp only[Pt];rfl) (fun _ _ _ _=>by simp only[Pt];exact⟨rfl,rfl,rfl⟩) ?_;intro u1 u2 u3 u4 w10 HD;simp only[Act.put]))
    go_roundw
    case rel=>exact⟨k+1,rfl,hkl,HD.out⟩
    case measure=>simp[RowKit.intOf];omega
  ·have hki: ¬(k:Int)<(l.length:Int):=by omega
   have ek:k=l.length:=by omega
   subst ek
   have HRA:=h_ hra
   clear hra
   go_wp2_with fail
   go_ret
   have:=HRA.out
   exact⟨rfl,by have h:=this.map;rwa[List.take_length]at h,this.below⟩
end Go.Proofs.YtekfoaenomgjgaaGreatDoor

namespace Go.Proofs.YtekfoaenomgjgaaGreatDoor
open Go.RowKit Go.W32 Go.Blk Go.Cs Go.Lib Go.Opn

theorem kn_none'(M:List ((dy×ByteArray)×Int))(p:Pr):∀ {n:Nat},db M p n=none->∀m,n<=m->db M p m=none:=by
 intro n h m hm
 induction m with
 |zero=>
   have:n=0:=by omega
   subst this;exact h
 |succ m ih=>
  rcases Nat.lt_or_ge m n with h1|h1
  ·have:n=m+1:=by omega
   subst this;exact h
  ·have:=ih h1
   unfold db at this⊢
   rw[List.range_succ,List.foldl_append,this]
   rfl
theorem kn_succ(M:List ((dy×ByteArray)×Int))(p:Pr)(n:Nat):db M p (n+1)=knStep M p (db M p n) n:=by
 unfold db
 rw[List.range_succ,List.foldl_append]
 rfl
structure PrOk (p:Pr):Prop where
 x:LetOk p.x
 sum:p.sum.size<=4611686018427387903
set_option maxHeartbeats 4000000 in
theorem kn_any(p:Pr)(parties:Int)(b:Nat)(M:List ((dy×ByteArray)×Int))(W:World)(h1:0<=parties)(h2:parties<=12)(hm:Mk.MapIs W aV aOk nV b M)(ho:PrOk p):
  Calls Tryz.prog 30 #[.agg (bd p).toArray, .int .i64 parties, .map (some b)] W fun e w'=>e= .returned (.int .i64 (cJ parties M p))/\Below W.heap.size W w':=by
 obtain⟨n,rfl⟩:∃n:Nat,parties=(n:Int):=⟨parties.toNat,by omega⟩
 have HK:Hid (∀K,db M p n=some K->cJ (n:Int) M p=K):=h_ fun K h=>by unfold cJ;rw[Int.toNat_natCast,h];rfl
 have HK0:Hid (∀k,k<=n->db M p k=none->cJ (n:Int) M p= -1):=h_ fun k hk h=>by unfold cJ;rw[Int.toNat_natCast,kn_none' M p h n hk];rfl
 obtain⟨R,eR⟩:∃R,R=cJ (n:Int) M p:=⟨_,rfl⟩
 rw[<-eR]at HK HK0⊢
 obtain⟨cs,ecs⟩:∃cs,cs=bd p:=⟨_,rfl⟩
 have hr:Row (W.alloc (.cells cs.toArray 81)) W.heap.size 81 cs:=Row.new _ _ _
 have hb1:Below W.heap.size W (W.alloc (.cells cs.toArray 81)):=(Below.refl _ _).alloc (Nat.le_refl _) _
 have HM:Hid (Mk.MapIs (W.alloc (.cells cs.toArray 81)) aV aOk nV b M):=h_ (hm.keep (hb1.block _ hm.lt))
 have HB1:=h_ hb1
 have c1:=hr.at (show cs[1]? =some (.int .i64 p.x.party) by rw[ecs];rfl)
 have c2:=hr.at (show cs[2]? =some (.int .i64 p.x.number) by rw[ecs];rfl)
 have c3:=hr.at (show cs[3]? =some (.int .i64 p.x.sent) by rw[ecs];rfl)
 have c25:=hr.at (show cs[25]? =some (.string p.sum) by rw[ecs];rfl)
 have HOK:Hid (∀i:Nat,i<=12->aOk (((i:Int),p.x.number),p.sum)):=h_ fun i hi=>⟨⟨⟨by show _<=(i:Int);omega,by show(i:Int)<=_;omega⟩,ho.x.nums.2.2.1⟩,by have:maxLen=9223372036854775807:=rfl;have:=ho.sum;show p.sum.size<=maxLen;omega⟩
 have HX:Hid (bn p.x.party):=h_ ho.x.nums.2.1
 have hx1:=ho.x.nums.2.1.1
 have hx2:=ho.x.nums.2.1.2
 have K0:Hid (db M p 0=some p.x.sent):=h_ rfl
 rw[<-ecs]
 clear hr hb1 hm ho eR ecs
 go_enter Tryz.func30,Tryz.ntmps30
 go_wp2_with fail
 generalize e1:(W.alloc (.cells cs.toArray 81))=W1 at*
 clear e1
 go_loopw [7,15] (fun u v w=> ∃(k:Nat) (K:Int),w=W1/\u= .int .i64 K/\v= .int .i64 (k:Int)/\k<=n/\db M p k=some K) (fun _ v _=>n- (RowKit.intOf v).toNat)
 case atStart=>exact⟨0,p.x.sent,rfl,rfl,rfl,Nat.zero_le _,K0.out⟩
 case round=>
  obtain⟨k,K,rfl,rfl,rfl,hk,hK⟩:=hrel
  rcases Nat.lt_or_eq_of_le hk with hkl|hkl
  ·have hki:(k:Int)<(n:Int):=by omega
   have hs:=kn_succ M p k
   rw[hK]at hs
   unfold knStep at hs
   simp only[]at hs
   by_cases hp:(k:Int)=p.x.party
   ·rw[if_pos hp]at hs
    have HS:=h_ hs
    clear hs hK
    go_wp2_with fail
    go_roundw
    case rel=>
     refine⟨k+1,K, ?_, ?_, ?_,hkl,HS.out⟩
     all_goals first|trivial|rfl|(rw[<-hp];rfl)
    case measure=>simp[RowKit.intOf];omega
   ·rw[if_neg hp]at hs
    have HA:=h_ (HOK.out k (by omega))
    rcases G:Mk.get M (((k:Int),p.x.number),p.sum)with _|d
    ·rw[G]at hs
     have HS:=h_ hs
     have HG:=h_ G
     clear hs hK G
     go_wp2_with (refine Mk.wpList_look rfl (.tmp 24) (.tmp 32) true rfl fo HM.out Tryz.underlying77 (.int .i64 0) (fu _) (((k:Int),p.x.number),p.sum) HA.out rfl rfl ?_;rw[HG.out];simp only[Option.map_none,Option.getD_none,Option.isSome_none,if_true,Act.put])
     go_ret
     have:=HK0.out (k+1) hkl HS.out
     subst this
     exact⟨rfl,HB1.out⟩
    ·rw[G]at hs
     have HS:=h_ hs
     have HG:=h_ G
     clear hs hK G
     go_wp2_with (refine Mk.wpList_look rfl (.tmp 24) (.tmp 32) true rfl fo HM.out Tryz.underlying77 (.int .i64 0) (fu _) (((k:Int),p.x.number),p.sum) HA.out rfl rfl ?_;rw[HG.out];simp only[Option.map_some,Option.getD_some,Option.isSome_some,if_true,Act.put,nV])

     go_roundw
     case rel=>
      refine⟨k+1,max K d, ?_, ?_, ?_,hkl,HS.out⟩
      all_goals first|trivial|rfl|(congr 1;omega)
     case measure=>simp[RowKit.intOf];omega
  ·subst hkl
   have hki: ¬(k:Int)<(k:Int):=by omega
   have HK1:=h_ hK
   clear hK
   go_wp2_with fail
   go_ret
   have:=HK.out _ HK1.out
   subst this
   exact⟨rfl,HB1.out⟩
end Go.Proofs.YtekfoaenomgjgaaGreatDoor

namespace Go.Proofs.YtekfoaenomgjgaaGreatDoor
open Go.RowKit Go.W32 Go.Blk Go.Cs Go.Lib Go.Opn
def TookP(w:World)(g:Nat)(p:Pr):Prop:=Row w g 81 (bd p)
def cV1(p o:Pr):Bool:=decide (o.sum≠p.sum)&&decide (o.x.sent<=p.known)
def cV2(p:Pr)(d:Int):Bool:=decide (p.x.sent<=d)&&decide (d<p.known)
set_option maxHeartbeats 1000000 in
theorem v1_any(p o:Pr)(g:Nat)(W:World)(hg:TookP W g p):
  Calls Tryz.prog 66 #[.agg (bd o).toArray, .pointer (some ⟨g,0,none⟩)] W fun e w'=>e= .returned (.bool (cV1 p o))/\Below W.heap.size W w':=by
 obtain⟨cs,ecs⟩:∃cs,cs=bd o:=⟨_,rfl⟩
 obtain⟨ps,eps⟩:∃ps,ps=bd p:=⟨_,rfl⟩
 unfold TookP at hg
 rw[<-ecs]
 rw[<-eps]at hg
 have hr:Row (W.alloc (.cells cs.toArray 81)) W.heap.size 81 cs:=Row.new _ _ _
 have hb1:Below W.heap.size W (W.alloc (.cells cs.toArray 81)):=(Below.refl _ _).alloc (Nat.le_refl _) _
 have hq:=hg.below hb1 hg.lt
 have c3:=hr.at (show cs[3]? =some (.int .i64 o.x.sent) by rw[ecs];rfl)
 have c25:=hr.at (show cs[25]? =some (.string o.sum) by rw[ecs];rfl)
 have q25:=hq.at (show ps[25]? =some (.string p.sum) by rw[eps];rfl)
 have q26:=hq.at (show ps[26]? =some (.int .i64 p.known) by rw[eps];rfl)
 have HB1:=h_ hb1
 clear hr hb1 hq hg ecs eps
 go_enter Tryz.func66,Tryz.ntmps66
 have hd:decide (o.sum≠p.sum)= !(o.sum.toList==p.sum.toList):=by
  rw[Bool.eq_iff_iff]
  simp only[decide_eq_true_eq,Bool.not_eq_true',beq_eq_false_iff_ne,ne_eq]
  rw[ByteArray.toList_eq,ByteArray.toList_eq]
  exact⟨fun h e=>h (ba_ext e),fun h e=>h (by rw[e])⟩
 by_cases h1:o.sum.toList=p.sum.toList
 ·have hR:Hid (cV1 p o=false):=h_ (by unfold cV1;rw[hd];simp[h1])
  rw[hR.out]
  clear hd
  go_wp2_with fail
  go_ret
  exact⟨rfl,HB1.out⟩
 ·by_cases h2:o.x.sent<=p.known
  ·have hR:Hid (cV1 p o=true):=h_ (by unfold cV1;rw[hd];simp[h1,h2])
   rw[hR.out]
   clear hd
   go_wp2_with fail
   go_ret
   exact⟨congrArg (fun b=>Ending.returned (.bool b)) (show(!(o.sum.toList==p.sum.toList))=true by simp[h1]),HB1.out⟩
  ·have hR:Hid (cV1 p o=false):=h_ (by simp[cV1,h2])
   rw[hR.out]
   clear hd
   go_wp2_with fail
   go_ret
   exact⟨rfl,HB1.out⟩
set_option maxHeartbeats 1000000 in
theorem v2_any(p:Pr)(d:Int)(g:Nat)(W:World)(hg:TookP W g p):
  Calls Tryz.prog 67 #[.int .i64 d, .pointer (some ⟨g,0,none⟩)] W fun e w'=>e= .returned (.bool (cV2 p d))/\w'=W:=by
 obtain⟨ps,eps⟩:∃ps,ps=bd p:=⟨_,rfl⟩
 unfold TookP at hg
 rw[<-eps]at hg
 have q3:=hg.at (show ps[3]? =some (.int .i64 p.x.sent) by rw[eps];rfl)
 have q26:=hg.at (show ps[26]? =some (.int .i64 p.known) by rw[eps];rfl)
 clear hg eps
 go_enter Tryz.func67,Tryz.ntmps67
 by_cases h1:p.x.sent<=d
 ·by_cases h2:d<p.known
  ·have hR:Hid (cV2 p d=true):=h_ (by simp[cV2,h1,h2])
   rw[hR.out]
   go_wp2_with fail
   go_ret
   exact⟨rfl,rfl⟩
  ·have hR:Hid (cV2 p d=false):=h_ (by simp[cV2,h2])
   rw[hR.out]
   go_wp2_with fail
   go_ret
   exact⟨rfl,rfl⟩
 ·have hR:Hid (cV2 p d=false):=h_ (by simp[cV2,h1])
  rw[hR.out]
  go_wp2_with fail
  go_ret
  exact⟨rfl,rfl⟩
end Go.Proofs.YtekfoaenomgjgaaGreatDoor

namespace Go.Proofs.YtekfoaenomgjgaaGreatDoor
open Go.RowKit Go.W32 Go.Blk Go.Cs Go.Lib Go.Opn

instance:Inhabited Pr:=⟨⟨⟨0,0,0,0,0,Pat.zero,⟨#[]⟩⟩,⟨none,0,none,0⟩,⟨#[]⟩,0⟩⟩
theorem enters1(args:Array Value)(w:World):(callFunc 66 args).run Tryz.prog w= .ok (.enter 66 args) w:=enters_of Tryz.func66 (by kernel_rfl) rfl args w
theorem enters2(args:Array Value)(w:World):(callFunc 67 args).run Tryz.prog w= .ok (.enter 67 args) w:=enters_of Tryz.func67 (by kernel_rfl) rfl args w
theorem any_cp(p:Pr)(g:Nat)(b off c:Nat)(gs:List Pr)(W:World)(hp:TookP W g p)(hg:SL W 27 bd (some ⟨b,off,none⟩) gs)(hb:b<W.heap.size)(hn:gs.length<=9223372036854775807):
  Calls Tryz.prog 68 #[.slice (some ⟨b,off,none⟩) gs.length c, .func (.func 66) #[] #[.pointer (some ⟨g,0,none⟩)]] W fun e w'=>e= .returned (.bool (gs.any (cV1 p)))/\Below W.heap.size W w':=by
 have h:=AnyQ.slices_ContainsFunc (α:=Pr) Tryz.cfp 27 Tryz.isAgg81 Tryz.sizeOf81 bd (fun _=>rfl) (cV1 p) 66 #[.pointer (some ⟨g,0,none⟩)] enters1 b off gs.length c gs W
  (fun w' x hb'=>(v1_any p x g w' (hp.below hb' hp.lt)).mono fun e w'' ⟨h1,h2⟩=>⟨h1,hb'.trans (h2.mono hb'.size)⟩) (Nat.le_refl _) hn hb
  (fun j hj i v hi=>by
   obtain⟨b',off',e1,hc⟩:=hg.cells (by rintro rfl;simp at hj)
   cases e1
   rw[getElem!_pos gs j hj]at hi
   have:=hc j gs[j] (List.getElem?_eq_getElem hj) i v hi
   rw[<-this,Nat.add_assoc])
 rw[List.take_length]at h
 exact h
theorem any_ci(p:Pr)(g:Nat)(A:Option Addr)(c:Nat)(ds:List Int)(W:World)(hp:TookP W g p)(hg:SL W 1 encI A ds)(hn:ds.length<=9223372036854775807):
  Calls Tryz.prog 69 #[.slice A ds.length c, .func (.func 67) #[] #[.pointer (some ⟨g,0,none⟩)]] W fun e w'=>e= .returned (.bool (ds.any (cV2 p)))/\Below W.heap.size W w':=by
 cases ds with
 |nil=>
  refine(AnyE.slices_ContainsFunc_empty Tryz.cfi A c _ W).mono ?_
  rintro e w' ⟨rfl,rfl⟩
  exact⟨rfl,Below.refl _ _⟩
 |cons d ds=>
  obtain⟨b,off,e1,hc⟩:=hg.cells (by simp)
  subst e1
  have h:=AnyE.slices_ContainsFunc Tryz.cfi (Value.int .i64) (cV2 p) 67 #[.pointer (some ⟨g,0,none⟩)] enters2 b off (d::ds).length c (d::ds) W
   (fun w' x hb'=>by
    exact(v2_any p x g w' (hp.below hb' hp.lt)).mono fun e w'' ⟨h1,h2⟩=>⟨h1,0,by rw[h2];rfl⟩) (Nat.le_refl _) hn
   (fun j hj=>by
    rw[getElem!_pos (d::ds) j hj]
    have:=hc j _ (List.getElem?_eq_getElem hj) 0 (.int .i64 (d::ds)[j]) rfl
    rw[<-this,Nat.mul_one,Nat.add_zero])
  rw[List.take_length]at h
  exact h.mono fun e w' ⟨h1,q,h2⟩=>⟨h1,by rw[h2];exact below_drewN' (Below.refl _ _) q⟩
theorem valid_eq(p:Pr)(gs:List Pr)(ds:List Int):cm p gs ds=(decide (0<=p.known)&& !(gs.any (cV1 p))&& !(ds.any (cV2 p))):=rfl
set_option maxHeartbeats 1000000 in
theorem va_any(p:Pr)(b off c:Nat)(gs:List Pr)(A2:Option Addr)(c2:Nat)(ds:List Int)(W:World)(hg:SL W 27 bd (some ⟨b,off,none⟩) gs)(hb:b<W.heap.size)(hd:SL W 1 encI A2 ds)(hn:gs.length<=9223372036854775807)(hn2:ds.length<=9223372036854775807):
  Calls Tryz.prog 32 #[.agg (bd p).toArray, .slice (some ⟨b,off,none⟩) gs.length c, .slice A2 ds.length c2] W fun e w'=>e= .returned (.bool (cm p gs ds))/\Below W.heap.size W w':=by
 obtain⟨cs,ecs⟩:∃cs,cs=bd p:=⟨_,rfl⟩
 have hr:Row (W.alloc (.cells cs.toArray 81)) W.heap.size 81 cs:=Row.new _ _ _
 have hb1:Below W.heap.size W (W.alloc (.cells cs.toArray 81)):=(Below.refl _ _).alloc (Nat.le_refl _) _
 have c26:=hr.at (show cs[26]? =some (.int .i64 p.known) by rw[ecs];rfl)
 have hT:TookP (W.alloc (.cells cs.toArray 81)) W.heap.size p:=by unfold TookP;rw[<-ecs];exact hr
 have CP:=h_ (any_cp p W.heap.size b off c gs _ hT (hg.below hb1 (Nat.le_refl _)) (by simp;omega) hn)
 have CI:Hid (∀w',Below (W.alloc (.cells cs.toArray 81)).heap.size (W.alloc (.cells cs.toArray 81)) w'->Calls Tryz.prog 69 #[.slice A2 ds.length c2, .func (.func 67) #[] #[.pointer (some ⟨W.heap.size,0,none⟩)]] w' fun e w''=>e= .returned (.bool (ds.any (cV2 p)))/\Below w'.heap.size w' w''):=h_ fun w' hw=>any_ci p W.heap.size A2 c2 ds w' (Row.below hT hw hT.lt) ((hd.below hb1 (Nat.le_refl _)).below hw (Nat.le_refl _)) hn2
 have HB1:=h_ hb1
 obtain⟨R,eR⟩:∃R,R=cm p gs ds:=⟨_,rfl⟩
 obtain⟨x1,e1⟩:∃x1,x1=gs.any (cV1 p):=⟨_,rfl⟩
 obtain⟨x2,e2⟩:∃x2,x2=ds.any (cV2 p):=⟨_,rfl⟩
 have ER:Hid (R=(decide (0<=p.known)&& !x1&& !x2)):=h_ (by rw[eR,valid_eq,e1,e2])
 rw[<-eR]
 rw[<-e1]at CP
 rw[<-e2]at CI
 rw[<-ecs]
 clear hr hb1 hT hg hd hb ecs eR e1 e2
 go_enter Tryz.func32,Tryz.ntmps32
 by_cases hk:p.known<0
 ·have hR:Hid (R=false):=h_ (by rw[ER.out,decide_eq_false (by omega)];rfl)
  rw[hR.out]
  go_wp2_with fail
  go_ret
  exact⟨rfl,HB1.out⟩
 ·have hR:Hid (R=(!x1&& !x2)):=h_ (by rw[ER.out,decide_eq_true (by omega)];rfl)
  go_wp2_with fail
  generalize eW:(W.alloc (.cells cs.toArray 81))=W1 at*
  clear eW
  refine CP.out.mono ?_
  rintro e w1 ⟨rfl,hbx⟩
  have HBX:=h_ hbx
  have CI1:=h_ (CI.out w1 hbx)
  clear hbx CI CP
  cases x1 with
  |true=>
   go_wp2_with fail
   go_ret
   exact⟨by rw[hR.out];rfl,HB1.out.trans (HBX.out.mono HB1.out.size)⟩
  |false=>
   go_wp2_with fail
   refine CI1.out.mono ?_
   rintro e w2 ⟨rfl,hby⟩
   have HBY:=h_ hby
   clear hby CI1
   go_wp2_with fail
   go_ret
   have:=HB1.out.trans (HBX.out.mono HB1.out.size)
   exact⟨by rw[hR.out];rfl,this.trans (HBY.out.mono this.size)⟩
end Go.Proofs.YtekfoaenomgjgaaGreatDoor

namespace Go.Proofs.YtekfoaenomgjgaaGreatDoor
open Go.RowKit Go.W32 Go.Blk Go.Cs Go.Lib Go.Opn Go.Mg

def prZ:Pr:=⟨⟨0,0,0,0,0,Pat.zero,⟨#[]⟩⟩,⟨none,0,none,0⟩,⟨#[]⟩,0⟩
abbrev fSt (l:List Pr):Option Pr×Bool:=l.foldl (fp Pr.known) (none,false)
def fVal(s:Option Pr×Bool):Pr:=s.1.getD prZ
theorem fSt_snoc(l:List Pr)(k:Nat)(hk:k<l.length):fSt (l.take (k+1))=fp Pr.known (fSt (l.take k)) l[k]:=by
 unfold fSt
 rw[List.take_add_one,List.getElem?_eq_getElem hk,Option.toList_some,List.foldl_append]
 rfl
theorem fSt_some(l:List Pr)(k:Nat)(hk:k<l.length)(h0:k≠0):∃r b,fSt (l.take k)=(some r,b):=by
 rcases fst_inv Pr.known (l.take k)with⟨h,_⟩|⟨r,b,_,_,_,h,_⟩
 ·rw[List.take_eq_nil_iff]at h
  rcases h with h|h
  ·exact absurd h h0
  ·subst h;simp at hk
 ·exact⟨r,b,h⟩
structure RF (W:World) (gs:List Pr) (k:Nat) (w:World):Prop where
 res:Row w W.heap.size 81 (bd prZ)
 row:Row w (W.heap.size+1) 81 (bd (fVal (fSt (gs.take k))))
 below:Below W.heap.size W w
theorem RF.grow{W w w':World}{gs:List Pr}{k:Nat}(h:RF W gs k w)(hb:Below w.heap.size w w'):RF W gs k w':=
 ⟨h.res.below hb h.res.lt,h.row.below hb h.row.lt,h.below.trans (hb.mono h.below.size)⟩
def FPost(gs:List Pr)(W:World)(e:Ending)(w':World):Prop:=
 Below W.heap.size W w'/\((bD Pr.known gs=none/\e= .returned (.tuple #[.agg (bd prZ).toArray, .bool false]))\/∃x,bD Pr.known gs=some x/\e= .returned (.tuple #[.agg (bd x).toArray, .bool true]))
set_option maxHeartbeats 4000000 in
theorem fi_any(b off c:Nat)(gs:List Pr)(W:World)(hg:SL W 27 bd (some ⟨b,off,none⟩) gs)(hn:gs.length<=4611686018427387903):
  Calls Tryz.prog 33 #[.slice (some ⟨b,off,none⟩) gs.length c] W (FPost gs W):=by
 have HIP:Hid ((Tryz.prog.info? 81).map (·.size)=some 27):=by show _=_;kernel_rfl
 obtain⟨R,eR⟩:∃R,R=FPost gs W:=⟨_,rfl⟩
 rw[<-eR]
 have FIN:Hid (∀e w',FPost gs W e w'->R e w'):=h_ fun e w' h=>by rw[eR];exact h
 obtain⟨zs,ezs⟩:∃zs,zs=bd prZ:=⟨_,rfl⟩
 have W1e:((W.alloc (.cells zs.toArray 81)).alloc (.cells zs.toArray 81)).heap.size=W.heap.size+1+1:=by simp
 have hr1:Row ((W.alloc (.cells zs.toArray 81)).alloc (.cells zs.toArray 81)) W.heap.size 81 zs:=(Row.new W 81 zs).below ((Below.refl _ _).alloc (Nat.le_refl _) _) (by simp)
 have hr2:Row ((W.alloc (.cells zs.toArray 81)).alloc (.cells zs.toArray 81)) (W.heap.size+1) 81 zs:=by
  have:=Row.new (W.alloc (.cells zs.toArray 81)) 81 zs
  rwa[show(W.alloc (.cells zs.toArray 81)).heap.size=W.heap.size+1 by simp]at this
 have hb0:Below W.heap.size W ((W.alloc (.cells zs.toArray 81)).alloc (.cells zs.toArray 81)):=((Below.refl _ _).alloc (Nat.le_refl _) _).alloc (by simp) _
 have HR:Hid (RF W gs 0 ((W.alloc (.cells zs.toArray 81)).alloc (.cells zs.toArray 81))):=h_ ⟨by rw[<-ezs];exact hr1,by rw[List.take_zero];show Row _ _ _ (bd prZ);rw[<-ezs];exact hr2,hb0⟩
 have HZ:Hid ((#[.int .i64 0, .int .i64 0, .int .i64 0, .int .i64 0, .int .i64 0, .int .i64 0, .slice none 0 0, .int .i64 0, .int .i64 0, .int .i64 0, .int .i64 0, .slice none 0 0, .int .i64 0, .int .i64 0, .bool false, .bool false, .int .i64 0, .int .i64 0, .int .i64 0, .int .i64 0, .int .i64 0, .int .i64 0, .bool false, .int .i64 0, .string ⟨#[]⟩, .string ⟨#[]⟩, .int .i64 0]:Array Value)=zs.toArray):=h_ (by rw[ezs];rfl)
 have HG:=h_ hg
 have ONE:Hid ((#[.int .i64 0, .int .i64 0, .int .i64 0, .int .i64 0, .int .i64 0, .int .i64 0, .slice none 0 0, .int .i64 0, .int .i64 0, .int .i64 0, .int .i64 0, .slice none 0 0, .int .i64 0, .int .i64 0, .bool false, .bool false, .int .i64 0, .int .i64 0, .int .i64 0, .int .i64 0, .int .i64 0, .int .i64 0, .bool false, .int .i64 0, .string ⟨#[]⟩, .string ⟨#[]⟩, .int .i64 0]:Array Value).all (·.oneCell')=true):=h_ (by rw[HZ.out,ezs];exact all_oneCell_toArray (bX prZ))
 have EZS:=h_ ezs
 clear hr1 hr2 hb0 hg eR ezs
 go_enter Tryz.func33,Tryz.ntmps33
 go_wp2_with (refine ai (.tmp 4) ?_;refine Hk.wpList_store_fresh rfl 81 (.tmp 4) (.tmp 8) rfl (W.heap.size+1) _ rfl rfl _ 81 (by simp) (by rw[HIP.out];rfl) rfl ONE.out ?_;simp only[Act.put])
 rw[HZ.out]
 generalize eW:(W.alloc (.cells zs.toArray 81)).alloc (.cells zs.toArray 81)=W1 at*
 clear eW
 go_loopw [5,11] (fun u v wr=> ∃k:Nat,u= .bool (fSt (gs.take k)).2/\v= .int .i64 (k:Int)/\k<=gs.length/\RF W gs k wr) (fun _ v _=>(gs.length:Int).toNat- (RowKit.intOf v).toNat)
 case atStart=>exact⟨0,rfl,rfl,Nat.zero_le _,HR.out⟩
 case round=>
  clear HR
  obtain⟨k,rfl,rfl,hk,hra⟩:=hrel
  rcases Nat.lt_or_eq_of_le hk with hkl|hkl
  ·have hki:(k:Int)<(gs.length:Int):=by omega
   obtain⟨b',off',eA,hcell⟩:=(HG.out.below hra.below (Nat.le_refl _)).at_ (List.getElem?_eq_getElem hkl)
   cases eA
   obtain⟨q,eq⟩:∃q,q=gs[k]:=⟨_,rfl⟩
   have hnx:=fSt_snoc gs k hkl
   rw[<-eq]at hcell hnx
   obtain⟨S,eS⟩:∃S,S=fSt (gs.take k):=⟨_,rfl⟩
   rw[<-eS]at hnx
   obtain⟨rr,err⟩:∃rr,rr=fVal S:=⟨_,rfl⟩
   have hrow:=hra.row
   rw[<-eS, <-err]at hrow
   have hS:k≠0->S=(some rr,S.2):=fun h0=>by
    obtain⟨r0,b0,h⟩:=fSt_some gs k hkl h0
    rw[<-eS]at h
    rw[err,h];rfl
   have hS0:k=0->S=(none,false):=fun h0=>by rw[eS,h0];rfl
   rw[<-eS]
   obtain⟨qs,eqs⟩:∃qs,qs=bd q:=⟨_,rfl⟩
   have hql:qs.length=27:=by rw[eqs];rfl
   have hq1:∀v∈qs,v.oneCell'=true:=by rw[eqs];exact bX q
   rw[<-eqs]at hcell
   have HC:Hid (wr.rangeAt b (off+k*27) qs):=h_ (fun j v hj=>by have:=hcell j v hj;rw[<-Nat.add_assoc]at this;exact this)
   have HIQ:Hid ((Tryz.prog.info? 81).map (·.size)=some qs.length):=by show _=_;rw[hql];exact HIP.out
   obtain⟨W5,e5⟩:∃W5,W5=wr.alloc (.cells qs.toArray 81):=⟨_,rfl⟩
   have hb5:Below wr.heap.size wr W5:=by rw[e5];exact(Below.refl _ _).alloc (Nat.le_refl _) _
   have hq5:Row W5 wr.heap.size 81 qs:=by rw[e5];exact Row.new _ _ _
   have h5:=hra.grow hb5
   have hr5:=hrow.below hb5 hrow.lt
   have c26:=hq5.at (show qs[26]? =some (.int .i64 q.known) by rw[eqs];rfl)
   have r26:=hr5.at (show(bd rr)[26]? =some (.int .i64 rr.known) by rfl)
   have HM5:Hid (W5.rangeAt wr.heap.size 0 qs):=h_ (hq5.range (fun j v hj=>by rw[Nat.zero_add];exact hj))
   have HST:Hid (∀(Q:Exit->Act->World->Prop) (ops:Array Oper) (rest:List Oper) (o:Oper) (a:Act),o.guard=none->o.op= .store 81 (.tmp 7) (.tmp 15)->a.eval (.tmp 7)= .pointer (some ⟨wr.heap.size,0,none⟩)->a.eval (.tmp 15)= .agg qs.toArray->∀old:Array Value,old.size=27->wpList Tryz.prog ops Q rest (a.put o.dst undef) W5->wpList Tryz.prog ops Q (o::rest) a (wr.alloc (.cells old 81))):=h_ (by
    intro Q ops rest o a hgd ho hx hy old hold hk
    rw[e5]at hk
    exact Hk.wpList_store_fresh hgd 81 (.tmp 7) (.tmp 15) ho wr.heap.size _ hx hy old 81 rfl (by rw[HIP.out];simp[hql]) (by rw[hold];simp[hql]) (all_oneCell_toArray hq1) hk)
   have HSB:Hid (∀(Q:Exit->Act->World->Prop) (ops:Array Oper) (rest:List Oper) (o:Oper) (a:Act),o.guard=none->o.op= .store 81 (.tmp 4) (.tmp 26)->a.eval (.tmp 4)= .pointer (some ⟨W.heap.size+1,0,none⟩)->a.eval (.tmp 26)= .agg qs.toArray->fp Pr.known S q=(some q,true)->(∀w',RF W gs (k+1) w'->wpList Tryz.prog ops Q rest (a.put o.dst undef) w')->wpList Tryz.prog ops Q (o::rest) a W5):=h_ (by
    intro Q ops rest o a hgd ho hx hy hst hk
    refine Hk.wpList_store_own hgd 81 (.tmp 4) (.tmp 26) ho (W.heap.size+1) hx qs hy (bd rr) 81 hr5 HIQ.out (by rw[hql];rfl) hq1 ?_
    intro w' h1 h2 h3
    refine hk w' ⟨Row.keep h5.res (h2.block _ h5.res.lt (by simp)), ?_,h5.below.trans (aj h2 (fun g hg=>by injection hg with e;omega) h5.below.size)⟩
    rw[hnx,hst, <-show qs=bd (fVal (some q,true)) from eqs]
    exact h1)
   have HE:Hid (fSt (gs.take (k+1))=fp Pr.known S q):=h_ hnx
   have H5:Hid (fVal (fp Pr.known S q)=rr->RF W gs (k+1) W5):=h_ fun h=>⟨h5.res,by rw[hnx,h];exact hr5,h5.below⟩
   clear hcell hnx hrow e5 hb5 hq5 h5 hr5 hra hq1 eq eS err eqs
   by_cases h0:k=0
   ·have hS1:=hS0 h0
    rw[hS1]at HE HSB H5⊢
    have HF:Hid (fp Pr.known (none,false) q=(some q,true)):=h_ rfl
    have h0i:(k:Int)=0:=by omega
    have HC0:Hid (wr.rangeAt b off qs):=h_ (by have h:=HC.out;rw[h0,Nat.zero_mul,Nat.add_zero]at h;exact h)
    clear hS hS0 hS1 H5
    go_wp2_with (first|(refine ae (.tmp 14) ?_;refine wpList_load_mid rfl 81 (.tmp 14) rfl b off rfl qs _ HC0.out Tryz.underlying81 rfl HIQ.out ?_)|(refine ai (.tmp 7) ?_;refine HST.out _ _ _ _ _ rfl rfl rfl rfl _ (by simp) ?_;simp only[Act.put])|(refine ae (.tmp 7) ?_;refine wpList_load_mid rfl 81 (.tmp 7) rfl wr.heap.size 0 rfl qs _ HM5.out Tryz.underlying81 rfl HIQ.out ?_)|(refine ai (.tmp 4) ?_;refine HSB.out _ _ _ _ _ rfl rfl rfl rfl HF.out ?_;intro w9 h9;have H9:=h_ h9;clear h9;simp only[Act.put]))
    go_roundw
    case rel=>
     refine⟨k+1,by rw[HE.out,HF.out], ?_,hkl,H9.out⟩
     first|rfl|(congr 1;omega)
    case measure=>simp[RowKit.intOf]<;>omega
   ·have hS1:=hS h0
    obtain⟨bb,ebb⟩:∃bb,bb=S.2:=⟨_,rfl⟩
    rw[<-ebb]at hS1⊢
    rw[hS1]at HE HSB H5
    clear hS hS0 ebb hS1
    have h0i: ¬(k:Int)=0:=by omega
    by_cases h1:q.known<rr.known
    ·have HF:Hid (fp Pr.known (some rr,bb) q=(some q,true)):=h_ (by show(if _ then _ else _)=_;rw[if_pos h1])
     go_wp2_with (first|(refine ae (.tmp 14) ?_;refine wpList_load_mid rfl 81 (.tmp 14) rfl b (off+k*27) rfl qs _ HC.out Tryz.underlying81 rfl HIQ.out ?_)|(refine ai (.tmp 7) ?_;refine HST.out _ _ _ _ _ rfl rfl rfl rfl _ (by simp) ?_;simp only[Act.put])|(refine ae (.tmp 7) ?_;refine wpList_load_mid rfl 81 (.tmp 7) rfl wr.heap.size 0 rfl qs _ HM5.out Tryz.underlying81 rfl HIQ.out ?_)|(refine ai (.tmp 4) ?_;refine HSB.out _ _ _ _ _ rfl rfl rfl rfl HF.out ?_;intro w9 h9;have H9:=h_ h9;clear h9;simp only[Act.put]))
     go_roundw
     case rel=>exact⟨k+1,by rw[HE.out,HF.out],rfl,hkl,H9.out⟩
     case measure=>simp[RowKit.intOf];omega
    ·by_cases h2:q.known=rr.known
     ·have HF:Hid (fp Pr.known (some rr,bb) q=(some rr,false)):=h_ (by show(if _ then _ else _)=_;rw[if_neg h1,if_pos h2])
      go_wp2_with (first|(refine ae (.tmp 14) ?_;refine wpList_load_mid rfl 81 (.tmp 14) rfl b (off+k*27) rfl qs _ HC.out Tryz.underlying81 rfl HIQ.out ?_)|(refine ai (.tmp 7) ?_;refine HST.out _ _ _ _ _ rfl rfl rfl rfl _ (by simp) ?_;simp only[Act.put]))
      go_roundw
      case rel=>exact⟨k+1,by rw[HE.out,HF.out],rfl,hkl,H5.out (by rw[HF.out];rfl)⟩
      case measure=>simp[RowKit.intOf];omega
     ·have HF:Hid (fp Pr.known (some rr,bb) q=(some rr,bb)):=h_ (by show(if _ then _ else _)=_;rw[if_neg h1,if_neg h2])
      go_wp2_with (first|(refine ae (.tmp 14) ?_;refine wpList_load_mid rfl 81 (.tmp 14) rfl b (off+k*27) rfl qs _ HC.out Tryz.underlying81 rfl HIQ.out ?_)|(refine ai (.tmp 7) ?_;refine HST.out _ _ _ _ _ rfl rfl rfl rfl _ (by simp) ?_;simp only[Act.put]))
      go_roundw
      case rel=>exact⟨k+1,by rw[HE.out,HF.out],rfl,hkl,H5.out (by rw[HF.out];rfl)⟩
      case measure=>simp[RowKit.intOf];omega
  ·have hki: ¬(k:Int)<(gs.length:Int):=by omega
   have ek:k=gs.length:=by omega
   subst ek
   rw[List.take_length]
   have hres:=hra.res
   have hrow:=hra.row
   have hbel:=hra.below
   rw[List.take_length]at hrow
   rw[<-EZS.out]at hres
   have ZL:zs.length=27:=by rw[EZS.out];rfl
   have HIZ:Hid ((Tryz.prog.info? 81).map (·.size)=some zs.length):=by show _=_;rw[ZL];exact HIP.out
   have HZ1:Hid (∀v∈zs,v.oneCell'=true):=h_ (by rw[EZS.out];exact bX prZ)
   have hend:(∃x,fSt gs=(some x,true)/\bD Pr.known gs=some x)\/((fSt gs).2=false/\bD Pr.known gs=none):=by
    rcases fst_inv Pr.known gs with⟨_,h⟩|⟨x,bb,_,_,_,h,_⟩
    ·exact .inr ⟨by unfold fSt;rw[h],by unfold bD;rw[h]⟩
    ·cases bb with
     |true=>exact .inl ⟨x,h,by unfold bD;rw[h]⟩
     |false=>exact .inr ⟨by unfold fSt;rw[h],by unfold bD;rw[h]⟩
   have HRES:=h_ hres
   have HBEL:=h_ hbel
   rcases hend with⟨x,hx,hf⟩|⟨hx,hf⟩
   ·rw[hx]at hrow⊢
    obtain⟨xs,exs⟩:∃xs,xs=bd x:=⟨_,rfl⟩
    have hrow':Row wr (W.heap.size+1) 81 xs:=by rw[exs];exact hrow
    have xl:xs.length=27:=by rw[exs];rfl
    have HIX:Hid ((Tryz.prog.info? 81).map (·.size)=some xs.length):=by show _=_;rw[xl];exact HIP.out
    have HX1:Hid (∀v∈xs,v.oneCell'=true):=h_ (by rw[exs];exact bX x)
    have HMX:Hid (wr.rangeAt (W.heap.size+1) 0 xs):=h_ (hrow'.range (fun j v hj=>by rw[Nat.zero_add];exact hj))
    have HF:=h_ hf
    have EXS:=h_ exs
    have HXL:Hid (zs.length=xs.length):=h_ (by rw[ZL,xl])
    clear hra hres hrow hrow' hbel hx hf exs
    go_wp2_with (first|(refine ae (.tmp 4) ?_;refine wpList_load_mid rfl 81 (.tmp 4) rfl (W.heap.size+1) 0 rfl xs _ HMX.out Tryz.underlying81 rfl HIX.out ?_)|(refine ai (.tmp 2) ?_;refine Hk.wpList_store_own rfl 81 (.tmp 2) (.tmp 37) rfl W.heap.size rfl xs rfl zs 81 HRES.out HIX.out HXL.out HX1.out ?_;intro w9 h91 h92 h93;have H91:=h_ h91;have H92:=h_ h92;clear h91 h92 h93;simp only[Act.put]))
    refine bodyPost_ret (v:= .tuple #[.agg xs.toArray, .bool true]) (Hk.results_cell_row_tmp (fn:=Tryz.f33) (p:=2) (u:=3) (ty:=81) rfl _ _ W.heap.size 81 xs.toArray (0,0) _ rfl H91.out Tryz.underlying81 rfl (by rw[HIX.out];simp) rfl) rfl ?_
    refine FIN.out _ _ ⟨HBEL.out.trans (aj H92.out (fun g hg=>by injection hg with e;omega) HBEL.out.size), .inr ⟨x,HF.out,by rw[<-EXS.out]⟩⟩
   ·rw[hx]
    have HF:=h_ hf
    clear hra hres hrow hbel hx hf
    go_wp2_with (refine ai (.tmp 2) ?_;refine Hk.wpList_store_own rfl 81 (.tmp 2) (.tmp 36) rfl W.heap.size rfl zs (congrArg Value.agg HZ.out) zs 81 HRES.out HIZ.out rfl HZ1.out ?_;intro w9 h91 h92 h93;have H91:=h_ h91;have H92:=h_ h92;clear h91 h92 h93;simp only[Act.put])
    refine bodyPost_ret (v:= .tuple #[.agg zs.toArray, .bool false]) (Hk.results_cell_row_tmp (fn:=Tryz.f33) (p:=2) (u:=3) (ty:=81) rfl _ _ W.heap.size 81 zs.toArray (0,0) _ rfl H91.out Tryz.underlying81 rfl (by rw[HIZ.out];simp) rfl) rfl ?_
    refine FIN.out _ _ ⟨HBEL.out.trans (aj H92.out (fun g hg=>by injection hg with e;omega) HBEL.out.size), .inl ⟨HF.out,by rw[EZS.out]⟩⟩
end Go.Proofs.YtekfoaenomgjgaaGreatDoor

namespace Go.Proofs.YtekfoaenomgjgaaGreatDoor
open Go.RowKit Go.W32 Go.Blk Go.Cs Go.Lib Go.Opn Go.Mg
structure PatOwn (lo:Nat) (w:World) (p:Pat) (h:Hd):Prop where
 cl:w.ownsRow lo 3 1 (clV p h) p.cl.length (p.cl.flatMap encI)
 st:w.ownsRow lo 133 2 (stV p h) p.new.start.length (p.new.start.flatMap ar)
theorem info_i:(Tryz.prog.info? 3).map (fun i=>(i.zero,i.size,i.bytes))=some (some (.int .i64 0),1,8):=by kernel_rfl
theorem info_c:(Tryz.prog.info? 133).map (fun i=>(i.zero,i.size,i.bytes))=some (some (.agg #[.int .i64 0, .int .i64 0]),2,16):=by kernel_rfl
theorem cl1_any(A:Option Addr)(c:Nat)(l:List Int)(w:World)(hl:SL w 1 encI A l)(hn:l.length<=400):
  Calls Tryz.prog 58 #[.slice A l.length c] w fun e w'=> ∃A' c',e= .returned (.slice A' l.length c')/\w'.ownsRow w.heap.size 3 1 (.slice A' l.length c') l.length (l.flatMap encI)/\Below w.heap.size w w':=by
 obtain⟨i,h1,h2,h3,h4⟩:=bG info_i
 exact Cln.clone_any Tryz.cli (ec:=encI) i _ 1 8 h1 h2 h3 h4 rfl (by decide) Tryz.sizeOf3 (fun _=>rfl) (fun x v hv=>by simp[encI]at hv;subst hv;rfl) A c l w hl (by unfold maxLen;omega) (by omega)
theorem cl2_any(A:Option Addr)(c:Nat)(l:List (Int×Int))(w:World)(hl:SL w 2 ar A l)(hn:l.length<=8):
  Calls Tryz.prog 63 #[.slice A l.length c] w fun e w'=> ∃A' c',e= .returned (.slice A' l.length c')/\w'.ownsRow w.heap.size 133 2 (.slice A' l.length c') l.length (l.flatMap ar)/\Below w.heap.size w w':=by
 obtain⟨i,h1,h2,h3,h4⟩:=bG info_c
 exact Cln.clone_any Tryz.clc (ec:=ar) i _ 2 16 h1 h2 h3 h4 rfl (by decide) Tryz.sizeOf133 (fun _=>rfl) (fun x v hv=>by simp[ar]at hv;rcases hv with rfl|rfl<;>rfl) A c l w hl (by unfold maxLen;omega) (by omega)
theorem amZ:(#[.int .i64 0, .int .i64 0, .int .i64 0, .int .i64 0, .slice none 0 0, .int .i64 0, .int .i64 0, .int .i64 0, .int .i64 0, .slice none 0 0, .int .i64 0, .int .i64 0, .bool false, .bool false, .int .i64 0, .int .i64 0, .int .i64 0, .int .i64 0, .int .i64 0, .int .i64 0, .bool false, .int .i64 0]:Array Value)=(bH (prZ,⟨none,0,none,0⟩)).toArray:=rfl
set_option maxHeartbeats 1000000 in
theorem exec_buildAm{ρ:Operand->Value}{op:Oper}{w:World}(x y z u:Operand)(ho:op.op= .build 62 #[(0,x),(1,y),(2,z),(3,u)])(p:Pr)(h:Hd)(hx:ρ x= .int .i64 p.x.number)(hy:ρ y= .int .i64 p.x.day)(hz:ρ z= .int .i64 p.known)(hu:ρ u= .agg (aw p.x.patch h).toArray):
  (execOp ρ op).run Tryz.prog w= .ok (.value (.agg (bH (p,h)).toArray)) w:=by
 unfold execOp
 simp only[ho,hx,hy,hz,hu,List.map_toArray,List.map_cons,List.map_nil]
 unfold aw
 go_simp
 rfl
theorem aq{w:World}{B:Nat}{a:Addr}(h:B<=a.block)(u:Value):Below B w (w.setCell a u):=⟨rfl,rfl,rfl,by simp[World.setCell],fun k hk=>Below.heap_setCell _ _ _ _ (by omega)⟩
theorem let_set(p:Pr)(A B:Option Addr)(c d:Nat):((ay (p.x,p.h)).set 6 (.slice A p.x.patch.cl.length c)).set 11 (.slice B p.x.patch.new.start.length d)=ay (p.x,⟨A,c,B,d⟩):=rfl
theorem aD{w:World}{lo:Nat}{T:TypeId}{sz n:Nat}{v u:Value}{xs:List Value}{g k:Nat}(h:w.ownsRow lo T sz v n xs)(hg:g<lo):(w.setCell ⟨g,k,none⟩ u).ownsRow lo T sz v n xs:=
 owns_keep h fun g' hg'=>by
  have:=(owns_lt h hg').1
  exact Below.heap_setCell _ _ _ _ (by show g'≠g;omega)
set_option maxHeartbeats 2000000 in
theorem am_any(p:Pr)(W:World)(hp:PatAt W p.x.patch p.h)(hcl:p.x.patch.cl.length<=400)(hst:p.x.patch.new.start.length<=8):
  Calls Tryz.prog 34 #[.agg (bd p).toArray] W fun e w'=> ∃h',e= .returned (.agg (bH (p,h')).toArray)/\PatOwn W.heap.size w' p.x.patch h'/\Below W.heap.size W w':=by
 have HIA:Hid ((Tryz.prog.info? 62).map (·.size)=some 22):=by show _=_;kernel_rfl
 have HIP:Hid ((Tryz.prog.info? 47).map (·.size)=some 19):=by show _=_;kernel_rfl
 have HIL0:Hid ((Tryz.prog.info? 49).map (·.size)=some 25):=by show _=_;kernel_rfl
 obtain⟨cs,ecs⟩:∃cs,cs=bd p:=⟨_,rfl⟩
 obtain⟨ls,els⟩:∃ls,ls=ay (p.x,p.h):=⟨_,rfl⟩
 have hll:ls.length=25:=by rw[els];rfl
 have hl1:∀v∈ls,v.oneCell'=true:=by rw[els];exact cC _
 have hlc:∀j v,ls[j]? =some v->cs[0+j]? =some v:=fun j v hj=>by
  rw[Nat.zero_add,ecs];unfold bd
  rw[List.getElem?_append_left (by have:=(List.getElem?_eq_some_iff.1 hj).1;rw[els]at this;exact this), <-els];exact hj
 obtain⟨W2,e2⟩:∃W2,W2=(W.alloc (.cells cs.toArray 81)).alloc (.cells (#[.int .i64 0, .int .i64 0, .int .i64 0, .int .i64 0, .slice none 0 0, .int .i64 0, .int .i64 0, .int .i64 0, .int .i64 0, .slice none 0 0, .int .i64 0, .int .i64 0, .bool false, .bool false, .int .i64 0, .int .i64 0, .int .i64 0, .int .i64 0, .int .i64 0, .int .i64 0, .bool false, .int .i64 0]:Array Value) 62):=⟨_,rfl⟩
 have z2:W2.heap.size=W.heap.size+1+1:=by rw[e2];simp
 have hb2:Below W.heap.size W W2:=by rw[e2];exact((Below.refl _ _).alloc (Nat.le_refl _) _).alloc (by simp) _
 have hr2:Row W2 W.heap.size 81 cs:=by rw[e2];exact(Row.new W 81 cs).below ((Below.refl _ _).alloc (Nat.le_refl _) _) (by simp)
 obtain⟨zs,ezs⟩:∃zs,zs=bH (prZ,⟨none,0,none,0⟩):=⟨_,rfl⟩
 have ha2:Row W2 (W.heap.size+1) 62 zs:=by
  rw[e2,amZ, <-ezs]
  have:=Row.new (W.alloc (.cells cs.toArray 81)) 62 zs
  rwa[show(W.alloc (.cells cs.toArray 81)).heap.size=W.heap.size+1 by simp]at this
 obtain⟨W3,e3⟩:∃W3,W3=W2.alloc (.cells ls.toArray 49):=⟨_,rfl⟩
 have z3:W3.heap.size=W.heap.size+1+1+1:=by rw[e3];simp[z2]
 have hb3:Below W2.heap.size W2 W3:=by rw[e3];exact(Below.refl _ _).alloc (Nat.le_refl _) _
 have hr3:=hr2.below hb3 hr2.lt
 have ha3:=ha2.below hb3 ha2.lt
 have hl3:Row W3 (W.heap.size+1+1) 49 ls:=by
  have:=Row.new W2 49 ls
  rwa[<-e3,z2]at this
 have hbb3:=hb2.trans (hb3.mono hb2.size)
 have c6:=hl3.at (show ls[6]? =some (.slice p.h.A p.x.patch.cl.length p.h.c) by rw[els];rfl)
 have HML:Hid (W2.rangeAt W.heap.size 0 ls):=h_ (hr2.range hlc)
 have HIL:Hid ((Tryz.prog.info? 49).map (·.size)=some ls.length):=by show _=_;rw[hll];exact HIL0.out
 have HST:Hid (∀(Q:Exit->Act->World->Prop) (ops:Array Oper) (rest:List Oper) (o:Oper) (a:Act),o.guard=none->o.op= .store 49 (.tmp 3) (.tmp 5)->a.eval (.tmp 3)= .pointer (some ⟨W.heap.size+1+1,0,none⟩)->a.eval (.tmp 5)= .agg ls.toArray->∀old:Array Value,old.size=25->wpList Tryz.prog ops Q rest (a.put o.dst undef) W3->wpList Tryz.prog ops Q (o::rest) a (W2.alloc (.cells old 49))):=h_ (by
  intro Q ops rest o a hgd ho hx hy old hold hk
  rw[e3]at hk
  exact Hk.wpList_store_fresh hgd 49 (.tmp 3) (.tmp 5) ho (W.heap.size+1+1) _ hx hy old 49 z2.symm (by rw[HIL0.out];simp[hll]) (by rw[hold];simp[hll]) (all_oneCell_toArray hl1) hk)
 have C1:=h_ (cl1_any p.h.A p.h.c p.x.patch.cl W3 (hp.cl.below hbb3 (Nat.le_refl _)) hcl)
 have HL3:=h_ hl3
 have HR3:=h_ hr3
 have HA3:=h_ ha3
 have HB3:=h_ hbb3
 have HPT:=h_ hp
 have ELS:=h_ els
 have ECS:=h_ ecs
 have Z3:=h_ z3
 have EZS:=h_ ezs
 have E2:Hid ((W.alloc (.cells cs.toArray 81)).alloc (.cells (#[.int .i64 0, .int .i64 0, .int .i64 0, .int .i64 0, .slice none 0 0, .int .i64 0, .int .i64 0, .int .i64 0, .int .i64 0, .slice none 0 0, .int .i64 0, .int .i64 0, .bool false, .bool false, .int .i64 0, .int .i64 0, .int .i64 0, .int .i64 0, .int .i64 0, .int .i64 0, .bool false, .int .i64 0]:Array Value) 62)=W2):=h_ e2.symm
 rw[<-ecs]
 clear hp hll hl1 hlc hb2 hr2 ha2 hb3 hr3 ha3 hl3 hbb3 e3 els ecs e2 z3 ezs
 go_enter Tryz.func34,Tryz.ntmps34
 go_wp2_with (first|(refine ae (.tmp 4) ?_;rw[E2.out];refine wpList_load_mid rfl 49 (.tmp 4) rfl W.heap.size 0 rfl ls _ HML.out Tryz.underlying49 rfl HIL.out ?_)|(refine ai (.tmp 3) ?_;refine HST.out _ _ _ _ _ rfl rfl rfl rfl _ (by simp) ?_;simp only[Act.put]))
 refine C1.out.mono ?_
 rintro e w4 ⟨A1,c1,rfl,ho4,hb4⟩
 have HL4:=h_ (HL3.out.below hb4 HL3.out.lt)
 have HR4:=h_ (HR3.out.below hb4 HR3.out.lt)
 have HA4:=h_ (HA3.out.below hb4 HA3.out.lt)
 have HB4:=h_ (HB3.out.trans (hb4.mono HB3.out.size))
 have HO4:=h_ ho4
 have d6:=HL4.out.at (show ls[6]? =some (.slice p.h.A p.x.patch.cl.length p.h.c) by rw[ELS.out];rfl)
 have f6:w4.frozen? ⟨W.heap.size+1+1,6,none⟩=false:=Blk.frozen HL4.out 6
 have hl5:Row (w4.setCell ⟨W.heap.size+1+1,6,none⟩ (.slice A1 p.x.patch.cl.length c1)) (W.heap.size+1+1) 49 (ls.set 6 (.slice A1 p.x.patch.cl.length c1)):=Blk.set HL4.out 6 _
 have hr5:Row (w4.setCell ⟨W.heap.size+1+1,6,none⟩ (.slice A1 p.x.patch.cl.length c1)) W.heap.size 81 cs:=Blk.set_ne HR4.out (by show W.heap.size+1+1≠W.heap.size;omega) _
 have ha5:Row (w4.setCell ⟨W.heap.size+1+1,6,none⟩ (.slice A1 p.x.patch.cl.length c1)) (W.heap.size+1) 62 zs:=Blk.set_ne HA4.out (by show W.heap.size+1+1≠W.heap.size+1;omega) _
 have hb5:Below W.heap.size W (w4.setCell ⟨W.heap.size+1+1,6,none⟩ (.slice A1 p.x.patch.cl.length c1)):=HB4.out.trans (aq (by show W.heap.size<=W.heap.size+1+1;omega) _)
 have ho5:(w4.setCell ⟨W.heap.size+1+1,6,none⟩ (.slice A1 p.x.patch.cl.length c1)).ownsRow W3.heap.size 3 1 (.slice A1 p.x.patch.cl.length c1) p.x.patch.cl.length (p.x.patch.cl.flatMap encI):=aD HO4.out (by have:=Z3.out;omega)
 have z5:W3.heap.size<=(w4.setCell ⟨W.heap.size+1+1,6,none⟩ (.slice A1 p.x.patch.cl.length c1)).heap.size:=by simpa using hb4.size
 have d11:=hl5.at (show(ls.set 6 (.slice A1 p.x.patch.cl.length c1))[11]? =some (.slice p.h.B p.x.patch.new.start.length p.h.d) by rw[ELS.out];rfl)
 have C2:=h_ (cl2_any p.h.B p.h.d p.x.patch.new.start _ (HPT.out.st.below hb5 (Nat.le_refl _)) hst)
 have HL5:=h_ hl5
 have HR5:=h_ hr5
 have HA5:=h_ ha5
 have HB5:=h_ hb5
 have HO5:=h_ ho5
 have Z5:=h_ z5
 clear hb4 ho4 hl5 hr5 ha5 hb5 ho5 z5 C1
 go_wp2_with fail
 generalize e5:(w4.setCell ⟨W.heap.size+1+1,6,none⟩ (.slice A1 p.x.patch.cl.length c1))=W5 at*
 clear e5 d6 f6 HL4 HR4 HA4 HB4 HO4 HL3 HR3 HA3 HB3 c6
 refine C2.out.mono ?_
 rintro e w6 ⟨A2,c2,rfl,ho6,hb6⟩
 have HL6:=h_ (HL5.out.below hb6 HL5.out.lt)
 have HR6:=h_ (HR5.out.below hb6 HR5.out.lt)
 have HA6:=h_ (HA5.out.below hb6 HA5.out.lt)
 have HB6:=h_ (HB5.out.trans (hb6.mono HB5.out.size))
 have HO6:=h_ ho6
 have HQ6:=h_ (owns_keep HO5.out fun g hg=>hb6.block _ (owns_lt HO5.out hg).2)
 have g11:=HL6.out.at (show(ls.set 6 (.slice A1 p.x.patch.cl.length c1))[11]? =some (.slice p.h.B p.x.patch.new.start.length p.h.d) by rw[ELS.out];rfl)
 have f11:w6.frozen? ⟨W.heap.size+1+1,11,none⟩=false:=Blk.frozen HL6.out 11
 obtain⟨W7,e7⟩:∃W7,W7=w6.setCell ⟨W.heap.size+1+1,11,none⟩ (.slice A2 p.x.patch.new.start.length c2):=⟨_,rfl⟩
 have hl7:Row W7 (W.heap.size+1+1) 49 (ay (p.x,⟨A1,c1,A2,c2⟩)):=by
  have h:=Blk.set (show Blk w6 _ _ _ from HL6.out) 11 (.slice A2 p.x.patch.new.start.length c2)
  rw[<-e7,ELS.out,let_set]at h
  exact h
 have hr7:Row W7 W.heap.size 81 cs:=by rw[e7];exact Blk.set_ne HR6.out (by show W.heap.size+1+1≠W.heap.size;omega) _
 have ha7:Row W7 (W.heap.size+1) 62 zs:=by rw[e7];exact Blk.set_ne HA6.out (by show W.heap.size+1+1≠W.heap.size+1;omega) _
 have hb7:Below W.heap.size W W7:=by rw[e7];exact HB6.out.trans (aq (by show W.heap.size<=W.heap.size+1+1;omega) _)
 have ho7:W7.ownsRow W5.heap.size 133 2 (.slice A2 p.x.patch.new.start.length c2) p.x.patch.new.start.length (p.x.patch.new.start.flatMap ar):=by rw[e7];exact aD HO6.out (by have:=Z3.out;have:=Z5.out;omega)
 have hq7:W7.ownsRow W3.heap.size 3 1 (.slice A1 p.x.patch.cl.length c1) p.x.patch.cl.length (p.x.patch.cl.flatMap encI):=by rw[e7];exact aD HQ6.out (by have:=Z3.out;omega)
 have k2:=hl7.at (show(ay (p.x,⟨A1,c1,A2,c2⟩))[2]? =some (.int .i64 p.x.number) by rfl)
 have k4:=hl7.at (show(ay (p.x,⟨A1,c1,A2,c2⟩))[4]? =some (.int .i64 p.x.day) by rfl)
 have k26:=hr7.at (show cs[26]? =some (.int .i64 p.known) by rw[ECS.out];rfl)
 obtain⟨ps,eps⟩:∃ps,ps=aw p.x.patch ⟨A1,c1,A2,c2⟩:=⟨_,rfl⟩
 have HMP:Hid (W7.rangeAt (W.heap.size+1+1) 5 ps):=h_ (hl7.range (fun j v hj=>by rw[eps]at hj;exact let_at hj))
 have HIP2:Hid ((Tryz.prog.info? 47).map (·.size)=some ps.length):=by show _=_;rw[eps];exact HIP.out
 obtain⟨ams,eams⟩:∃ams,ams=bH (p,⟨A1,c1,A2,c2⟩):=⟨_,rfl⟩
 have hal:ams.length=22:=by rw[eams];rfl
 have HIA2:Hid ((Tryz.prog.info? 62).map (·.size)=some ams.length):=by show _=_;rw[hal];exact HIA.out
 have HZL:Hid (zs.length=ams.length):=h_ (by rw[hal,EZS.out];rfl)
 have HA1:Hid (∀v∈ams,v.oneCell'=true):=h_ (by rw[eams];exact dG _)
 have HEX:Hid (∀ {ρ:Operand->Value} {op:Oper} {w:World} (ho:op.op= .build 62 #[(0, .tmp 21),(1, .tmp 23),(2, .tmp 25),(3, .tmp 27)]) (hx:ρ (.tmp 21)= .int .i64 p.x.number) (hy:ρ (.tmp 23)= .int .i64 p.x.day) (hz:ρ (.tmp 25)= .int .i64 p.known) (hu:ρ (.tmp 27)= .agg ps.toArray),(execOp ρ op).run Tryz.prog w= .ok (.value (.agg ams.toArray)) w):=h_ fun ho hx hy hz hu=>by
  rw[eams]
  exact exec_buildAm _ _ _ _ ho p ⟨A1,c1,A2,c2⟩ hx hy hz (by rw[hu,eps])
 have E7:Hid (w6.setCell ⟨W.heap.size+1+1,11,none⟩ (.slice A2 p.x.patch.new.start.length c2)=W7):=h_ e7.symm
 have HAZ:=h_ ha7
 have HB7:=h_ hb7
 have HO7:=h_ ho7
 have HQ7:=h_ hq7
 have EAMS:=h_ eams
 have Z5b:Hid (W.heap.size<=W3.heap.size/\W.heap.size<=W5.heap.size):=h_ ⟨by have:=Z3.out;omega,by have:=Z3.out;have:=Z5.out;omega⟩
 clear hb6 ho6 hl7 hr7 ha7 hb7 ho7 hq7 e7 eps eams hal C2 HL5 HR5 HA5 HB5 HO5
 go_wp2_with (first|(refine ae (.tmp 20) ?_;rw[E7.out])|(refine ae (.tmp 26) ?_;refine wpList_load_mid rfl 47 (.tmp 26) rfl (W.heap.size+1+1) 5 rfl ps _ HMP.out Tryz.underlying47 rfl HIP2.out ?_)|(refine Row.still rfl (HEX.out rfl rfl rfl rfl rfl) ?_;simp only[Act.put])|(refine ai (.tmp 2) ?_;refine Hk.wpList_store_own rfl 62 (.tmp 2) (.tmp 28) rfl (W.heap.size+1) rfl ams rfl zs 62 HAZ.out HIA2.out HZL.out HA1.out ?_;intro w9 h91 h92 h93;have H91:=h_ h91;have H92:=h_ h92;clear h91 h92 h93;simp only[Act.put]))
 refine bodyPost_ret (v:= .agg ams.toArray) (Hk.results_cell_row (fn:=Tryz.f34) (p:=2) (ty:=62) rfl _ _ (W.heap.size+1) 62 ams.toArray (0,0) _ rfl H91.out Tryz.underlying62 rfl (by rw[HIA2.out];simp)) rfl ?_
 have hz:=Z5b.out
 have zz:=Z3.out
 have z5':=Z5.out
 refine⟨⟨A1,c1,A2,c2⟩,by rw[EAMS.out],⟨gK (owns_keep HQ7.out fun g hg=>H92.out.block _ (owns_lt HQ7.out hg).2 (fun e=>by have:=(owns_lt HQ7.out hg).1;injection e with e;omega)) hz.1,gK (owns_keep HO7.out fun g hg=>H92.out.block _ (owns_lt HO7.out hg).2 (fun e=>by have:=(owns_lt HO7.out hg).1;injection e with e;omega)) hz.2⟩,HB7.out.trans (aj H92.out (fun g hg=>by injection hg with e;omega) HB7.out.size)⟩
end Go.Proofs.YtekfoaenomgjgaaGreatDoor
