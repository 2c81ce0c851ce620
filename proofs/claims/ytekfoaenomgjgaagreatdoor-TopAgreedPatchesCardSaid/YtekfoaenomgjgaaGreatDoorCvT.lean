/- Package patch: the region in which Apply looks its kind up, and boxes what it has found. No condition. -/
import Derived.Test.YtekfoaenomgjgaaGreatDoorQE
import Derived.Test.YtekfoaenomgjgaaGreatDoorFre4
set_option linter.all false
namespace Go.Proofs.YtekfoaenomgjgaaGreatDoor
open Go.RowKit Go.W32 Go.Blk Go.Cs Go.Lib Go.Opn Go.Mg Go.Cv

def zE:List Value:=gq ⟨0,0,false,false⟩ .nilFunc
def lvL:Option (Eff×Value)->List Value
 |some x=>gq x.1 x.2
 |none=>zE
theorem lvL_len:∀o,(lvL o).length=5
 |some _=>rfl
 |none=>rfl
theorem lvL_get(o:Option (Eff×Value)):(o.map encE).getD (.agg zE.toArray)= .agg (lvL o).toArray:=by cases o<;>rfl
theorem fn_one:∀ {k:Int} {x:Eff×Value},Mk.get effL k=some x->∃f,x.2=fnV f:=fun {k x} h=>by
 have hm:=Mk.get_mem h
 simp only[effL,List.mem_cons,List.not_mem_nil,or_false,Prod.mk.injEq]at hm
 rcases hm with⟨_,rfl⟩|⟨_,rfl⟩|⟨_,rfl⟩|⟨_,rfl⟩|⟨_,rfl⟩<;>exact⟨_,rfl⟩
theorem lvL_one(k:Int):∀v∈lvL (Mk.get effL k),v.oneCell'=true:=by
 cases h:Mk.get effL k with
 |none=>
  intro v hv
  simp only[lvL,zE,gq,List.mem_cons,List.not_mem_nil,or_false]at hv
  rcases hv with rfl|rfl|rfl|rfl|rfl<;>rfl
 |some x=>
  intro v hv
  obtain⟨f,hf⟩:=fn_one h
  simp only[lvL,gq,hf,List.mem_cons,List.not_mem_nil,or_false]at hv
  rcases hv with rfl|rfl|rfl|rfl|rfl<;>rfl
theorem zE_arr:(#[.int .i64 0, .int .i64 0, .bool false, .bool false, .nilFunc]:Array Value)=zE.toArray:=rfl
def TE(w:World)(k:Nat):Prop:=∃cs,w.heap[k]? =some (.cells cs 119 (0,0))
theorem TE.lt{w:World}{k:Nat}(h:TE w k):k<w.heap.size:=by obtain⟨_,h⟩:=h;exact(Array.getElem?_eq_some_iff.1 h).1
structure RelE (base:Nat) (w w':World):Prop where
 os:w'.os=w.os
 tape:w'.tape=w.tape
 output:w'.output=w.output
 size:w.heap.size<=w'.heap.size
 same:∀k,k<w.heap.size->k<base\/ ¬TE w k->w'.heap[k]? =w.heap[k]?
 te:∀k,TE w k->TE w' k
theorem RelE.refl{base:Nat}(w:World):RelE base w w:=⟨rfl,rfl,rfl,Nat.le_refl _,fun _ _ _=>rfl,fun _ h=>h⟩
theorem RelE.trans{base:Nat}(a b c:World)(h:RelE base a b)(g:RelE base b c):RelE base a c:=
 ⟨g.os.trans h.os,g.tape.trans h.tape,g.output.trans h.output,Nat.le_trans h.size g.size,fun k hk hx=>by
  have e1:=h.same k hk hx
  rw[g.same k (Nat.lt_of_lt_of_le hk h.size) ?_,e1]
  rcases hx with hx|hx
  ·exact .inl hx
  ·exact .inr fun⟨cs,e⟩=>hx ⟨cs,by rw[<-e1];exact e⟩,fun k hk=>g.te k (h.te k hk)⟩
theorem RelE.below{base:Nat}{w w':World}(h:RelE base w w')(hb:base<=w.heap.size):Below base w w':=⟨h.os,h.tape,h.output,h.size,fun k hk=>h.same k (by omega) (.inl hk)⟩
theorem RelE.of{base:Nat}{w w':World}(h:Below w.heap.size w w'):RelE base w w':=⟨h.os,h.tape,h.output,h.size,fun k hk _=>h.block k hk,fun k hk=>by
 obtain⟨cs,e⟩:=hk
 exact⟨cs,by rw[h.block k (Array.getElem?_eq_some_iff.1 e).1];exact e⟩⟩
structure CE (base:Nat) (es:List Value) (d:Nat->Bool) (w:World):Prop where
 bs:base<=w.heap.size
 o:d 8=true->d 7=true
 no:d 7=false->∀z,base<=z-> ¬TE w z
 yes:d 7=true->∃x,base<=x/\w.heap[x]? =some (.cells (if d 8 then es.toArray else zE.toArray) 119 (0,0))/\∀z,base<=z->TE w z->z=x
theorem CE.grow{base:Nat}{es:List Value}{d:Nat->Bool}{w w':World}{k:Nat}(h:CE base es d w)(hb:Below w.heap.size w w')(hs:∀z,w.heap.size<=z-> ¬TE w' z)(hk:k≠7/\k≠8):CE base es (Fre4.upd d k) w':=by
 have e7:Fre4.upd d k 7=d 7:=by unfold Fre4.upd;rw[if_neg (fun e=>hk.1 e.symm)]
 have e8:Fre4.upd d k 8=d 8:=by unfold Fre4.upd;rw[if_neg (fun e=>hk.2 e.symm)]
 have ht:∀z,TE w' z->TE w z:=fun z hz=>by
  by_cases hzl:z<w.heap.size
  ·obtain⟨cs,e⟩:=hz
   exact⟨cs,by rw[<-hb.block z hzl];exact e⟩
  ·exact absurd hz (hs z (by omega))
 refine⟨Nat.le_trans h.bs hb.size,by rw[e7,e8];exact h.o,by rw[e7];exact fun h7 z hz hn=>h.no h7 z hz (ht z hn), ?_⟩
 rw[e7,e8]
 intro h7
 obtain⟨x,h1,h2,h3⟩:=h.yes h7
 exact⟨x,h1,by rw[hb.block x (Array.getElem?_eq_some_iff.1 h2).1];exact h2,fun z hz hn=>h3 z hz (ht z hn)⟩
theorem CE.still{base:Nat}{es:List Value}{d:Nat->Bool}{w:World}{k:Nat}(h:CE base es d w)(hk:k≠7/\k≠8):CE base es (Fre4.upd d k) w:=by
 have e7:Fre4.upd d k 7=d 7:=by unfold Fre4.upd;rw[if_neg (fun e=>hk.1 e.symm)]
 have e8:Fre4.upd d k 8=d 8:=by unfold Fre4.upd;rw[if_neg (fun e=>hk.2 e.symm)]
 exact⟨h.bs,by rw[e7,e8];exact h.o,by rw[e7];exact h.no,by rw[e7,e8];exact h.yes⟩
theorem CE.box{base:Nat}{es:List Value}{d:Nat->Bool}{w:World}(h:CE base es d w)(h7:d 7=false):CE base es (Fre4.upd d 7) (w.alloc (.cells zE.toArray 119)):=by
 have h8:d 8=false:=by
  cases hd:d 8 with
  |false=>rfl
  |true=>rw[h.o hd]at h7;cases h7
 have e8:Fre4.upd d 7 8=false:=by unfold Fre4.upd;rw[if_neg (by decide)];exact h8
 refine⟨Nat.le_trans h.bs (by simp),fun h=>(by rw[e8]at h;cases h),fun h=>(by cases h),fun _=>⟨w.heap.size,h.bs, ?_,fun z hz ht=> ?_⟩⟩
 ·rw[e8];exact heap_alloc_new w _
 ·by_cases hzl:z<w.heap.size
  ·obtain⟨cs,e⟩:=ht
   rw[Below.heap_alloc w _ z hzl]at e
   exact absurd ⟨cs,e⟩ (h.no h7 z hz)
  ·have:=ht.lt
   simp at this;omega
theorem CE.put{base:Nat}{es:List Value}{d:Nat->Bool}{w:World}{x:Nat}(h:CE base es d w)(h8:d 8=false)(hx:base<=x)(ht:TE w x):
  w.heap[x]? =some (.cells zE.toArray 119 (0,0))/\CE base es (Fre4.upd d 8) (w.setRow x es.toArray)/\RelE base w (w.setRow x es.toArray):=by
 have h7:d 7=true:=by
  cases hd:d 7 with
  |true=>rfl
  |false=>exact absurd ht (h.no hd x hx)
 obtain⟨y,y1,y2,y3⟩:=h.yes h7
 have:=y3 x hx ht
 subst this
 rw[h8,if_neg (by decide)]at y2
 have e7:Fre4.upd d 8 7=true:=by unfold Fre4.upd;rw[if_neg (by decide)];exact h7
 have hs:(w.setRow x es.toArray).heap[x]? =some (.cells es.toArray 119 (0,0)):=setRow_heap w x _ _ 119 _ y2
 have ho:∀k,k≠x->(w.setRow x es.toArray).heap[k]? =w.heap[k]? :=fun k hk=>by
  simp only[World.setRow,Array.getElem?_modify];rw[if_neg (Ne.symm hk)]
 refine⟨y2,⟨Nat.le_trans h.bs (by simp[World.setRow]),fun _=>e7,fun h=>(by rw[e7]at h;cases h),fun _=>⟨x,hx,hs,fun z hz hn=> ?_⟩⟩,⟨rfl,rfl,rfl,by simp[World.setRow],fun k hk hk2=>ho k (fun e=> ?_),fun k hk=> ?_⟩⟩
 ·by_cases hzx:z=x
  ·exact hzx
  ·obtain⟨cs,e⟩:=hn
   rw[ho z hzx]at e
   exact y3 z hz ⟨cs,e⟩
 ·subst e
  rcases hk2 with hk2|hk2
  ·omega
  ·exact hk2 ht
 ·by_cases hkx:k=x
  ·subst hkx;exact⟨_,hs⟩
  ·obtain⟨cs,e⟩:=hk
   exact⟨cs,by rw[ho k hkx];exact e⟩
theorem aY{P:Program}{ρ:Operand->Value}{op:Oper}{w:World}(ty:TypeId)(x y:Operand)(ho:op.op= .store ty x y)(g:Nat)(cells:Array Value)(hx:ρ x= .pointer (some ⟨g,0,none⟩))(hy:ρ y= .agg cells)
  (t:TypeId) (old:Array Value) (hg:w.heap[g]? =some (.cells old t (0,0))) (hi:(P.info? ty).map (·.size)=some cells.size) (hold:old.size=cells.size) (h1:cells.all (·.oneCell')=true):
  (execOp ρ op).run P w= .ok .skip (w.setRow g cells):=by
 unfold execOp
 simp only[ho,hx,hy,Instr.storeAt,Instr.sureAddr,Sem.run_bind,Sem.run_pure,Result.andThen_ok,run_storeVar_row w g t ty old cells hg hi hold h1]
theorem exec_look2{P:Program}{ρ:Operand->Value}{op:Oper}{w:World}{α β:Type}[DecidableEq α]{enc:α->Value}{ok:α->Prop}{encV:β->Value}{t k e:TypeId}{b:Nat}{L:List (α×β)}{m x:Operand}(ho:op.op= .lookup t m x true)(K:Mk.Key P k enc ok)(h:Mk.MapIs w enc ok encV b L)(ht:P.underlying t=some (.map k e))
  {z:Value} (hz:(zeroValue e).run P w= .ok z w) {xi:α} (hx:ok xi) (hm:ρ m= .map (some b)) (hxe:ρ x=enc xi) {v:Value} {f:Bool} (hv:((Mk.get L xi).map encV).getD z=v) (hf:(Mk.get L xi).isSome=f):(execOp ρ op).run P w= .ok (.value (.tuple #[v, .bool f])) w:=by
 have hrun:=h.look K ht hz hx true
 unfold execOp
 simp only[ho,hm,hxe]
 simp only[if_true]at hrun
 rw[hv,hf]at hrun
 simp[hrun,Result.andThen]
theorem zero_E(w:World):(zeroValue 119).run Tryz.prog w= .ok (.agg zE.toArray) w:=by kernel_rfl
theorem info_E(cs:List Value)(h:cs.length=5):(Tryz.prog.info? 119).map (·.size)=some cs.length:=by rw[h];kernel_rfl
structure DoFn (p:Pat) (h:Hd) (f:Nat):Prop where
 enter:∀args w,(callFunc f args).run Tryz.prog w= .ok (.enter f args) w
 run:∀lo v kls W,lo<=W.heap.size->KlsOwn W lo v kls->(∀w',Below lo W w'->PatAt w' p h)->kls.length<=4000->cA (kls.length:Int) (-1) p.cl=true->Calls Tryz.prog f #[v, .agg (aw p h).toArray] W (fQ p kls lo W)
theorem do_fn{p:Pat}{h:Hd}{ef:Eff}{fv:Value}{n:Nat}(hg:Mk.get effL p.kind=some (ef,fv))(hf:dw n p ef=true)(hcl:p.cl.length<=4611686018427387903)(hst:p.new.start.length<=1000000):∃f,fv=fnV f/\DoFn p h f:=by
 have hm:=Mk.get_mem hg
 unfold dw at hf
 simp only[Bool.and_eq_true,decide_eq_true_eq]at hf
 simp only[effL,List.mem_cons,List.not_mem_nil,or_false,Prod.mk.injEq]at hm
 rcases hm with⟨hk,rfl,rfl⟩|⟨hk,rfl,rfl⟩|⟨hk,rfl,rfl⟩|⟨hk,rfl,rfl⟩|⟨hk,rfl,rfl⟩
 ·exact⟨_,rfl,enters_of Tryz.func89 (by kernel_rfl) rfl,fun lo v kls W h1 h2 h3 h4 _=>add_any p h lo v kls W h1 h2 h3 hst h4 hk⟩
 ·exact⟨_,rfl,enters_of Tryz.func90 (by kernel_rfl) rfl,fun lo v kls W h1 h2 h3 h4 h5=>replace_any p h lo v kls W h1 h2 h3 hst h4 h5 (by have:=hf.1;simp only at this;omega) hk⟩
 ·exact⟨_,rfl,enters_of Tryz.func88 (by kernel_rfl) rfl,fun lo v kls W h1 h2 h3 _ h5=>waive_any p h lo v kls W h1 h2 h3 hcl h5 (by rw[hk];decide)⟩
 ·exact⟨_,rfl,enters_of Tryz.func88 (by kernel_rfl) rfl,fun lo v kls W h1 h2 h3 _ h5=>waive_any p h lo v kls W h1 h2 h3 hcl h5 (by rw[hk];decide)⟩
 ·exact⟨_,rfl,enters_of Tryz.func91 (by kernel_rfl) rfl,fun lo v kls W h1 h2 h3 _ h5=>span_any p h lo v kls W h1 h2 h3 hcl h5 hk⟩
theorem made_kls(n:Nat)(hn:n<=4000)(W:World):(Instr.makeSlice 25 (.int .i64 (n:Int)) (.int .i64 ((n:Int)+1))).run Tryz.prog W= .ok (.slice (some ⟨W.heap.size,0,none⟩) n (n+1)) (W.alloc (.cells (madeCells (aF (Cls.zero,(none,0))).toArray ((n+1)*16)) 45)):=by
 obtain⟨i,hi,hz,hs,hy⟩:=bG info_kl
 have h:=run_make (P:=Tryz.prog) W 25 45 i _ Tryz.underlying25 hi hz .i64 .i64 (n:Int) ((n:Int)+1) (by omega) (by omega) (by rw[hy];omega) (by omega)
 rw[h,hs,show((n:Int)+1).toNat=n+1 by omega,Int.toNat_natCast]
 all_goals rfl
structure CpL (c:ConM) (lo g:Nat) (k:Nat) (kls:List Kl) (w:World):Prop where
 own:KlsOwn w lo (.slice (some ⟨g,0,none⟩) kls.length (kls.length+1)) kls
 len:kls.length=c.kls.length
 val:kls.map Prod.fst=Sel.part (c.kls.map Prod.fst) Cls.zero k
theorem CpL.below{c:ConM}{lo g k:Nat}{kls:List Kl}{w w':World}(h:CpL c lo g k kls w)(hb:Below w.heap.size w w'):CpL c lo g k kls w':=⟨h.own.below hb,h.len,h.val⟩
theorem CpL.made(c:ConM)(w:World)(hn:c.kls.length<=4000):CpL c w.heap.size w.heap.size 0 (List.replicate c.kls.length (Cls.zero,(none,0))) (w.alloc (.cells (madeCells (aF (Cls.zero,(none,0))).toArray ((c.kls.length+1)*16)) 45)):=by
 refine⟨⟨?_,fun k hk=> ?_⟩,by simp, ?_⟩
 ·rw[List.length_replicate]
  exact Sel.own_made bP (by decide) (Cls.zero,(none,0)) w c.kls.length (c.kls.length+1) (by omega) (by unfold maxLen;omega) (Nat.le_refl _)
 ·rw[List.eq_of_mem_replicate hk]
  exact World.ownsRow_nil _ _ _ _
 ·rw[Sel.part_zero,List.length_map,List.map_replicate]
theorem CpL.next{c:ConM}{lo g k:Nat}{kls:List Kl}{w w':World}{x:Kl}{A':Option Addr}{c':Nat}(h:CpL c lo g k kls w)(hx:c.kls[k]? =some x)(hr:w'.ownsRow lo 45 16 (.slice (some ⟨g,0,none⟩) kls.length (kls.length+1)) kls.length ((kls.set k (x.1,(A',c'))).flatMap aF))(hg:w.grownBy w' (some g))
  (hn:w.ownsRow lo 133 2 (.slice A' x.1.start.length c') x.1.start.length (x.1.start.flatMap ar)):CpL c lo g (k+1) (kls.set k (x.1,(A',c'))) w':=by
 refine⟨?_,by rw[List.length_set];exact h.len, ?_⟩
 ·rw[List.length_set]
  refine h.own.grown (w':=w') hg (by rw[List.length_set];exact hr) fun q hq=> ?_
  rcases List.mem_or_eq_of_mem_set hq with hq|rfl
  ·exact .inl ⟨q,hq,rfl,rfl⟩
  ·exact .inr (owns_keep hn fun j hj=>hg.block j (owns_lt hn hj).2 fun e=>cv hn h.own.row (by decide) hj e.symm)
 ·rw[List.map_set,h.val,Sel.part_set]
  rw[List.getElem?_map,hx];rfl
end Go.Proofs.YtekfoaenomgjgaaGreatDoor
