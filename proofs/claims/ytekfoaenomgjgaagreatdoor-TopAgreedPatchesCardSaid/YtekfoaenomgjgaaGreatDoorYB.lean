/- Hooks of the walk: a whole struct stored into a block that has just been made. No condition. Single operations of a region that does not draw its order, by what they are known to do. No condition. Groups of guarded operations ('&&', '||') walked in one way, whatever the guard says. No condition. The rule of Free for operations that turn old memory too: a relation says how a world may turn. Appending lists of records to a row of one's own, in any order with other work. No condition. One more element in the slice at a key of a map: five operations in a row. No condition. Hooks of the walk: a whole struct stored into a block of one's own; a result cell and a temporary as results. No condition. One more element in the slice that a look-up has given: an append and a store in a row. No condition. A region that draws its order and holds calls that turn the world, one after the other: each operation shown once, the world being at the stage that its calls have reached. No condition. slices.Clone of a slice that reads as a list, whatever its elements are. No condition. -/
import Derived.Deep.WholeRow
import Derived.Deep.MidRow
import Derived.Laws.Tables
import Derived.WalkKit
import Derived.Test.YtekfoaenomgjgaaGreatDoorFree
import Derived.BigFrame
import Derived.Lib.Hide
import Derived.Test.YtekfoaenomgjgaaGreatDoorZ2
import Derived.Test.YtekfoaenomgjgaaGreatDoorYA
import Derived.Test.YtekfoaenomgjgaaGreatDoorZ1
import Derived.Maps.AppendAt
import Derived.Below
import Derived.Laws.AppendOwn
import Derived.Shelf.SlicesE.Clone
set_option linter.all false
namespace Go.Hk
open Go Go.RowKit
theorem heap_new{w:World}{o:Obj}{g:Nat}(hg:g=w.heap.size):(w.alloc o).heap[g]? =some o:=by
 subst hg;show(w.heap.push o)[w.heap.size]? =_;simp
theorem wpList_store_fresh{P:Program}{ops:Array Oper}{rest:List Oper}{o:Oper}{a:Act}{w:World}{Q:Exit->Act->World->Prop}(hgd:o.guard=none)(ty:TypeId)(x y:Operand)(ho:o.op= .store ty x y)
  (g:Nat) (cells:Array Value) (hx:a.eval x= .pointer (some ⟨g,0,none⟩)) (hy:a.eval y= .agg cells)
  (old:Array Value) (t:TypeId) (hg:g=w.heap.size) (hi:(P.info? ty).map (·.size)=some cells.size) (hold:old.size=cells.size) (h1:cells.all (·.oneCell')=true)
  (h:wpList P ops Q rest (a.put o.dst undef) (w.alloc (.cells cells t))):wpList P ops Q (o::rest) a (w.alloc (.cells old t)):=by
 refine wpList_store_row hgd ty x y ho g cells hx hy t old (heap_new hg) hi hold h1 ?_
 subst hg
 rw[World.setRow_alloc_new]
 exact h
theorem exec_mid{P:Program}{ρ:Operand->Value}{op:Oper}{w:World}(ty:TypeId)(x:Operand)(ho:op.op= .load ty x)(b o:Nat)(hx:ρ x= .pointer (some ⟨b,o,none⟩))(cs:List Value)(d:TypeDesc)(hc:w.rangeAt b o cs)
  (hu:P.underlying ty=some d) (hd:d.isRow=true) (hi:(P.info? ty).map (·.size)=some cs.length):(execOp ρ op).run P w= .ok (.value (.agg cs.toArray)) w:=by
 unfold execOp
 simp only[ho,hx,Instr.loadAt,Instr.sureAddr,Sem.run_bind,Sem.run_pure,Result.andThen_ok,run_loadVar_mid w b o ty cs d hc hu hd hi]
end Go.Hk

namespace Go.Row
open Go Go.RowKit
section
variable {P:Program} {ops:Array Oper} {Q:Exit->Act->World->Prop} {a:Act} {w:World} {rest:List Oper} {o:Oper}
theorem step(hw:Region.wanted o (yielded ops a.tmps)=true){K:Value->World->Prop}(h1:Free.opRun P o a.eval w K)(h2:∀v w',K v w'->wpList P ops Q rest (a.put o.dst v) w'):wpList P ops Q (o::rest) a w:=
 BigFrame.wpList_want hw fun _ hK=>Free.opRun_wp h1 fun v w' hv=>hK _ _ (h2 v w' hv)
theorem moved(hw:Region.wanted o (yielded ops a.tmps)=true){v:Value}{w':World}(h1:(execOp a.eval o).run P w= .ok (.value v) w')(h2:wpList P ops Q rest (a.put o.dst v) w'):wpList P ops Q (o::rest) a w:=
 step hw (K:=fun u x=>u=v/\x=w') (Free.opRun_of h1 ⟨rfl,rfl⟩) (by rintro _ _ ⟨rfl,rfl⟩;exact h2)
theorem still(hw:Region.wanted o (yielded ops a.tmps)=true){v:Value}(h1:(execOp a.eval o).run P w= .ok (.value v) w)(h2:wpList P ops Q rest (a.put o.dst v) w):wpList P ops Q (o::rest) a w:=moved hw h1 h2
end
end Go.Row

namespace Go.Grd
open Go Go.RowKit Go.Free
section
variable {P:Program} {ops:Array Oper} {Q:Exit->Act->World->Prop} {a:Act} {w:World} {rest:List Oper} {o1 o2 o3 o4 o5:Oper} {j t s1 s2 s3 s4 s5:Nat} {pol acc B:Bool} {v1 v2 v3:Value}
theorem bW{o:Oper}{a:Act}(hg:o.guard=some (j,pol))(hj:(ops[j]?).bind (·.dst)=some t)(ht:a.tmps[t]? =some (.bool acc)):Region.wanted o (yielded ops a.tmps)=(acc==pol):=by
 unfold Region.wanted yielded
 rw[hg]
 simp only[hj,Option.bind_some,ht]
 cases acc<;>cases pol<;>rfl
theorem bg{a:Act}{s t:Nat}{v:Value}(h:s≠t):(a.put (some s) v).tmps[t]? =a.tmps[t]? :=bT a (some s) v t (fun e=>h (Option.some.inj e))
theorem pick_run{ρ:Operand->Value}{o:Oper}{c x y:Operand}{b:Bool}(ho:o.op= .pick c x y)(hc:ρ c= .bool b):(execOp ρ o).run P w= .ok (.value (if b then ρ x else ρ y)) w:=by
 unfold execOp
 simp only[ho,hc]
 cases b<;>rfl
theorem eval_at{a:Act}{t:Nat}{v:Value}(h:a.tmps[t]? =some v):a.eval (.tmp t)=v:=by
 show a.tmps.getD t undef=v
 simp[Array.getD_eq_getD_getElem?,h]
theorem fg{a:Act}{s:Nat}{v:Value}(h:s<a.tmps.size):(a.put (some s) v).tmps[s]? =some v:=by rw[bU,if_pos h]
theorem fj{a:Act}{o:Oper}{s d t:Nat}{u:Value}{conj:Bool}(hgd:o.guard=none)(hd:o.dst=some d)(ho:o.op=bif conj then .pick (.tmp t) (.tmp s) (.const (.bool false))else .pick (.tmp t) (.const (.bool true)) (.tmp s))
  (ht:a.tmps[t]? =some (.bool acc)) (hs:a.tmps[s]? =some u) (hu:acc=conj->u= .bool B)
  (h:wpList P ops Q rest (a.put (some d) (.bool (bif conj then acc&&B else acc||B))) w):wpList P ops Q (o::rest) a w:=by
 have hw:Region.wanted o (yielded ops a.tmps)=true:=by simp[Region.wanted,hgd]
 cases conj with
 |true=>
  refine Row.still hw (pick_run ho (eval_at ht)) ?_
  rw[hd]
  cases acc with
  |true=>
   have:a.eval (.tmp s)= .bool B:=by rw[eval_at hs];exact hu rfl
   rw[if_pos rfl,this];exact h
  |false=>exact h
 |false=>
  refine Row.still hw (pick_run ho (eval_at ht)) ?_
  rw[hd]
  cases acc with
  |true=>exact h
  |false=>
   have:a.eval (.tmp s)= .bool B:=by rw[eval_at hs];exact hu rfl
   rw[if_neg (by simp),this];exact h
theorem group3(conj:Bool)(g1:o1.guard=some (j,conj))(g2:o2.guard=some (j,conj))(g3:o3.guard=some (j,conj))(g4:o4.guard=none)
  (d1:o1.dst=some s1) (d2:o2.dst=some s2) (d3:o3.dst=some s3) (d4:o4.dst=some s4) (hj:(ops[j]?).bind (·.dst)=some t) (ht:a.tmps[t]? =some (.bool acc)) (n1:s1≠t) (n2:s2≠t) (n3:s3≠t) (hsz:s3<a.tmps.size)
  (o4e:o4.op=bif conj then .pick (.tmp t) (.tmp s3) (.const (.bool false))else .pick (.tmp t) (.const (.bool true)) (.tmp s3))
  (e1:(execOp a.eval o1).run P w= .ok (.value v1) w) (e2:(execOp (a.put (some s1) v1).eval o2).run P w= .ok (.value v2) w) (e3:(execOp ((a.put (some s1) v1).put (some s2) v2).eval o3).run P w= .ok (.value (.bool B)) w)
  (h:∀u1 u2 u3,wpList P ops Q rest ((((a.put (some s1) u1).put (some s2) u2).put (some s3) u3).put (some s4) (.bool (bif conj then acc&&B else acc||B))) w):wpList P ops Q (o1::o2::o3::o4::rest) a w:=by
 by_cases hp:acc=conj
 ·have hw:∀ {o:Oper} {a:Act},o.guard=some (j,conj)->a.tmps[t]? =some (.bool acc)->Region.wanted o (yielded ops a.tmps)=true:=fun hg ht=>by rw[bW hg hj ht,hp];cases conj<;>rfl
  have t1:(a.put (some s1) v1).tmps[t]? =some (.bool acc):=by rw[bg n1,ht]
  have t2:((a.put (some s1) v1).put (some s2) v2).tmps[t]? =some (.bool acc):=by rw[bg n2,t1]
  have t3:(((a.put (some s1) v1).put (some s2) v2).put (some s3) (.bool B)).tmps[t]? =some (.bool acc):=by rw[bg n3,t2]
  refine Row.still (hw g1 ht) e1 ?_
  rw[d1]
  refine Row.still (hw g2 t1) e2 ?_
  rw[d2]
  refine Row.still (hw g3 t2) e3 ?_
  rw[d3]
  exact fj g4 d4 o4e t3 (fg (by simp only[br];exact hsz)) (fun _=>rfl) (h _ _ _)
 ·have hw:∀ {o:Oper} {a:Act},o.guard=some (j,conj)->a.tmps[t]? =some (.bool acc)->Region.wanted o (yielded ops a.tmps)=false:=fun hg ht=>by rw[bW hg hj ht];cases acc<;>cases conj<;>simp_all
  have t1:(a.put (some s1) undef).tmps[t]? =some (.bool acc):=by rw[bg n1,ht]
  have t2:((a.put (some s1) undef).put (some s2) undef).tmps[t]? =some (.bool acc):=by rw[bg n2,t1]
  have t3:(((a.put (some s1) undef).put (some s2) undef).put (some s3) undef).tmps[t]? =some (.bool acc):=by rw[bg n3,t2]
  refine wpList_skip (hw g1 ht) ?_
  rw[d1]
  refine wpList_skip (hw g2 t1) ?_
  rw[d2]
  refine wpList_skip (hw g3 t2) ?_
  rw[d3]
  exact fj g4 d4 o4e t3 (fg (by simp only[br];exact hsz)) (fun e=>absurd e hp) (h _ _ _)
theorem group4(conj:Bool)(g1:o1.guard=some (j,conj))(g2:o2.guard=some (j,conj))(g3:o3.guard=some (j,conj))(g4:o4.guard=some (j,conj))(g5:o5.guard=none)
  (d1:o1.dst=some s1) (d2:o2.dst=some s2) (d3:o3.dst=some s3) (d4:o4.dst=some s4) (d5:o5.dst=some s5) (hj:(ops[j]?).bind (·.dst)=some t) (ht:a.tmps[t]? =some (.bool acc)) (n1:s1≠t) (n2:s2≠t) (n3:s3≠t) (n4:s4≠t) (hsz:s4<a.tmps.size)
  (o5e:o5.op=bif conj then .pick (.tmp t) (.tmp s4) (.const (.bool false))else .pick (.tmp t) (.const (.bool true)) (.tmp s4))
  (e1:(execOp a.eval o1).run P w= .ok (.value v1) w) (e2:(execOp (a.put (some s1) v1).eval o2).run P w= .ok (.value v2) w) (e3:(execOp ((a.put (some s1) v1).put (some s2) v2).eval o3).run P w= .ok (.value v3) w)
  (e4:(execOp (((a.put (some s1) v1).put (some s2) v2).put (some s3) v3).eval o4).run P w= .ok (.value (.bool B)) w)
  (h:∀u1 u2 u3 u4,wpList P ops Q rest (((((a.put (some s1) u1).put (some s2) u2).put (some s3) u3).put (some s4) u4).put (some s5) (.bool (bif conj then acc&&B else acc||B))) w):wpList P ops Q (o1::o2::o3::o4::o5::rest) a w:=by
 by_cases hp:acc=conj
 ·have hw:∀ {o:Oper} {a:Act},o.guard=some (j,conj)->a.tmps[t]? =some (.bool acc)->Region.wanted o (yielded ops a.tmps)=true:=fun hg ht=>by rw[bW hg hj ht,hp];cases conj<;>rfl
  have t1:(a.put (some s1) v1).tmps[t]? =some (.bool acc):=by rw[bg n1,ht]
  have t2:((a.put (some s1) v1).put (some s2) v2).tmps[t]? =some (.bool acc):=by rw[bg n2,t1]
  have t3:(((a.put (some s1) v1).put (some s2) v2).put (some s3) v3).tmps[t]? =some (.bool acc):=by rw[bg n3,t2]
  have t4:((((a.put (some s1) v1).put (some s2) v2).put (some s3) v3).put (some s4) (.bool B)).tmps[t]? =some (.bool acc):=by rw[bg n4,t3]
  refine Row.still (hw g1 ht) e1 ?_
  rw[d1]
  refine Row.still (hw g2 t1) e2 ?_
  rw[d2]
  refine Row.still (hw g3 t2) e3 ?_
  rw[d3]
  refine Row.still (hw g4 t3) e4 ?_
  rw[d4]
  exact fj g5 d5 o5e t4 (fg (by simp only[br];exact hsz)) (fun _=>rfl) (h _ _ _ _)
 ·have hw:∀ {o:Oper} {a:Act},o.guard=some (j,conj)->a.tmps[t]? =some (.bool acc)->Region.wanted o (yielded ops a.tmps)=false:=fun hg ht=>by rw[bW hg hj ht];cases acc<;>cases conj<;>simp_all
  have t1:(a.put (some s1) undef).tmps[t]? =some (.bool acc):=by rw[bg n1,ht]
  have t2:((a.put (some s1) undef).put (some s2) undef).tmps[t]? =some (.bool acc):=by rw[bg n2,t1]
  have t3:(((a.put (some s1) undef).put (some s2) undef).put (some s3) undef).tmps[t]? =some (.bool acc):=by rw[bg n3,t2]
  have t4:((((a.put (some s1) undef).put (some s2) undef).put (some s3) undef).put (some s4) undef).tmps[t]? =some (.bool acc):=by rw[bg n4,t3]
  refine wpList_skip (hw g1 ht) ?_
  rw[d1]
  refine wpList_skip (hw g2 t1) ?_
  rw[d2]
  refine wpList_skip (hw g3 t2) ?_
  rw[d3]
  refine wpList_skip (hw g4 t3) ?_
  rw[d4]
  exact fj g5 d5 o5e t4 (fg (by simp only[br];exact hsz)) (fun e=>absurd e hp) (h _ _ _ _)
theorem and3{op1 op2 op3:Op}{ty1 ty2 ty3 ty4:TypeId}{ps1 ps2 ps3 ps4:String}{af1 af2 af3 af4:Array Edge}
  (hj:(ops[j]?).bind (·.dst)=some t) (ht:a.tmps[t]? =some (.bool acc)) (n1:s1≠t) (n2:s2≠t) (n3:s3≠t) (hsz:s3<a.tmps.size)
  (e1:(execOp a.eval ⟨some s1,op1,ty1,ps1,af1,some (j,true)⟩).run P w= .ok (.value v1) w) (e2:(execOp (a.put (some s1) v1).eval ⟨some s2,op2,ty2,ps2,af2,some (j,true)⟩).run P w= .ok (.value v2) w) (e3:(execOp ((a.put (some s1) v1).put (some s2) v2).eval ⟨some s3,op3,ty3,ps3,af3,some (j,true)⟩).run P w= .ok (.value (.bool B)) w)
  (h:∀u1 u2 u3 C,RowKit.Hid (C=(acc&&B))->wpList P ops Q rest ((((a.put (some s1) u1).put (some s2) u2).put (some s3) u3).put (some s4) (.bool C)) w):wpList P ops Q (⟨some s1,op1,ty1,ps1,af1,some (j,true)⟩::⟨some s2,op2,ty2,ps2,af2,some (j,true)⟩::⟨some s3,op3,ty3,ps3,af3,some (j,true)⟩::⟨some s4,Op.pick (.tmp t) (.tmp s3) (.const (.bool false)),ty4,ps4,af4,none⟩::rest) a w:=
 group3 true rfl rfl rfl rfl rfl rfl rfl rfl hj ht n1 n2 n3 hsz rfl e1 e2 e3 (fun u1 u2 u3=>h u1 u2 u3 _ (h_ rfl))
theorem or3{op1 op2 op3:Op}{ty1 ty2 ty3 ty4:TypeId}{ps1 ps2 ps3 ps4:String}{af1 af2 af3 af4:Array Edge}
  (hj:(ops[j]?).bind (·.dst)=some t) (ht:a.tmps[t]? =some (.bool acc)) (n1:s1≠t) (n2:s2≠t) (n3:s3≠t) (hsz:s3<a.tmps.size)
  (e1:(execOp a.eval ⟨some s1,op1,ty1,ps1,af1,some (j,false)⟩).run P w= .ok (.value v1) w) (e2:(execOp (a.put (some s1) v1).eval ⟨some s2,op2,ty2,ps2,af2,some (j,false)⟩).run P w= .ok (.value v2) w) (e3:(execOp ((a.put (some s1) v1).put (some s2) v2).eval ⟨some s3,op3,ty3,ps3,af3,some (j,false)⟩).run P w= .ok (.value (.bool B)) w)
  (h:∀u1 u2 u3 C,RowKit.Hid (C=(acc||B))->wpList P ops Q rest ((((a.put (some s1) u1).put (some s2) u2).put (some s3) u3).put (some s4) (.bool C)) w):wpList P ops Q (⟨some s1,op1,ty1,ps1,af1,some (j,false)⟩::⟨some s2,op2,ty2,ps2,af2,some (j,false)⟩::⟨some s3,op3,ty3,ps3,af3,some (j,false)⟩::⟨some s4,Op.pick (.tmp t) (.const (.bool true)) (.tmp s3),ty4,ps4,af4,none⟩::rest) a w:=
 group3 false rfl rfl rfl rfl rfl rfl rfl rfl hj ht n1 n2 n3 hsz rfl e1 e2 e3 (fun u1 u2 u3=>h u1 u2 u3 _ (h_ rfl))
theorem and4{op1 op2 op3 op4:Op}{ty1 ty2 ty3 ty4 ty5:TypeId}{ps1 ps2 ps3 ps4 ps5:String}{af1 af2 af3 af4 af5:Array Edge}
  (hj:(ops[j]?).bind (·.dst)=some t) (ht:a.tmps[t]? =some (.bool acc)) (n1:s1≠t) (n2:s2≠t) (n3:s3≠t) (n4:s4≠t) (hsz:s4<a.tmps.size)
  (e1:(execOp a.eval ⟨some s1,op1,ty1,ps1,af1,some (j,true)⟩).run P w= .ok (.value v1) w) (e2:(execOp (a.put (some s1) v1).eval ⟨some s2,op2,ty2,ps2,af2,some (j,true)⟩).run P w= .ok (.value v2) w) (e3:(execOp ((a.put (some s1) v1).put (some s2) v2).eval ⟨some s3,op3,ty3,ps3,af3,some (j,true)⟩).run P w= .ok (.value v3) w) (e4:(execOp (((a.put (some s1) v1).put (some s2) v2).put (some s3) v3).eval ⟨some s4,op4,ty4,ps4,af4,some (j,true)⟩).run P w= .ok (.value (.bool B)) w)
  (h:∀u1 u2 u3 u4 C,RowKit.Hid (C=(acc&&B))->wpList P ops Q rest (((((a.put (some s1) u1).put (some s2) u2).put (some s3) u3).put (some s4) u4).put (some s5) (.bool C)) w):wpList P ops Q (⟨some s1,op1,ty1,ps1,af1,some (j,true)⟩::⟨some s2,op2,ty2,ps2,af2,some (j,true)⟩::⟨some s3,op3,ty3,ps3,af3,some (j,true)⟩::⟨some s4,op4,ty4,ps4,af4,some (j,true)⟩::⟨some s5,Op.pick (.tmp t) (.tmp s4) (.const (.bool false)),ty5,ps5,af5,none⟩::rest) a w:=
 group4 true rfl rfl rfl rfl rfl rfl rfl rfl rfl rfl hj ht n1 n2 n3 n4 hsz rfl e1 e2 e3 e4 (fun u1 u2 u3 u4=>h u1 u2 u3 u4 _ (h_ rfl))
theorem chk{d:Option Tmp}{op:Op}{ty:TypeId}{ps:String}{af:Array Edge}{g:Nat×Bool}(h:wpList P ops Q (⟨d,op,ty,ps,af,some g⟩::rest) a w):wpList P ops Q (⟨d,op,ty,ps,af,some g⟩::rest) a w:=h
theorem ifs2(x y:Int)(w:World):(if x=0 then if y=0 then(Result.ok (Next.value (Value.bool true)) w:Result Next)else .ok (.value (.bool false)) w else .ok (.value (.bool false)) w)= .ok (.value (.bool (x==0&&y==0))) w:=by
 by_cases hx:x=0<;>by_cases hy:y=0<;>simp[hx,hy]
theorem and2c{op1 op2:Op}{ty1 ty2 ty3:TypeId}{ps1 ps2 ps3:String}{af1 af2 af3:Array Edge}
  (hj:(ops[j]?).bind (·.dst)=some t) (ht:a.tmps[t]? =some (.bool acc)) (n1:s1≠t) (n2:s2≠t) (hsz:s2<a.tmps.size) (R:World->Prop) (hR:R w)
  (e1:(execOp a.eval ⟨some s1,op1,ty1,ps1,af1,some (j,true)⟩).run P w= .ok (.value v1) w) (e2:opRun P ⟨some s2,op2,ty2,ps2,af2,some (j,true)⟩ (a.put (some s1) v1).eval w (fun v w'=>v=(.bool B)/\R w'))
  (h:∀u1 u2 C w',RowKit.Hid (C=(acc&&B))->R w'->wpList P ops Q rest (((a.put (some s1) u1).put (some s2) u2).put (some s3) (.bool C)) w'):wpList P ops Q (⟨some s1,op1,ty1,ps1,af1,some (j,true)⟩::⟨some s2,op2,ty2,ps2,af2,some (j,true)⟩::⟨some s3,Op.pick (.tmp t) (.tmp s2) (.const (.bool false)),ty3,ps3,af3,none⟩::rest) a w:=by
 cases acc with
 |true=>
  have hw:∀ {o:Oper} {a:Act},o.guard=some (j,true)->a.tmps[t]? =some (.bool true)->Region.wanted o (yielded ops a.tmps)=true:=fun hg ht=>by rw[bW hg hj ht];rfl
  have t1:(a.put (some s1) v1).tmps[t]? =some (.bool true):=by rw[bg n1,ht]
  have t2:((a.put (some s1) v1).put (some s2) (.bool B)).tmps[t]? =some (.bool true):=by rw[bg n2,t1]
  refine Row.still (hw rfl ht) e1 ?_
  refine Row.step (hw rfl t1) e2 ?_
  rintro _ w' ⟨rfl,hr⟩
  exact fj (conj:=true) (B:=B) rfl rfl rfl t2 (fg (by simp only[br];exact hsz)) (fun _=>rfl) (h _ _ _ _ (h_ rfl) hr)
 |false=>
  have hw:∀ {o:Oper} {a:Act},o.guard=some (j,true)->a.tmps[t]? =some (.bool false)->Region.wanted o (yielded ops a.tmps)=false:=fun hg ht=>by rw[bW hg hj ht];rfl
  have t1:(a.put (some s1) undef).tmps[t]? =some (.bool false):=by rw[bg n1,ht]
  have t2:((a.put (some s1) undef).put (some s2) undef).tmps[t]? =some (.bool false):=by rw[bg n2,t1]
  refine wpList_skip (hw rfl ht) ?_
  refine wpList_skip (hw rfl t1) ?_
  exact fj (conj:=true) (B:=B) rfl rfl rfl t2 (fg (by simp only[br];exact hsz)) (fun e=>by cases e) (h _ _ _ _ (h_ rfl) hR)
theorem and3c{op1 op2 op3:Op}{ty1 ty2 ty3 ty4:TypeId}{ps1 ps2 ps3 ps4:String}{af1 af2 af3 af4:Array Edge}
  (hj:(ops[j]?).bind (·.dst)=some t) (ht:a.tmps[t]? =some (.bool acc)) (n1:s1≠t) (n2:s2≠t) (n3:s3≠t) (hsz:s3<a.tmps.size) (R:World->Prop) (hR:R w)
  (e1:(execOp a.eval ⟨some s1,op1,ty1,ps1,af1,some (j,true)⟩).run P w= .ok (.value v1) w) (e2:(execOp (a.put (some s1) v1).eval ⟨some s2,op2,ty2,ps2,af2,some (j,true)⟩).run P w= .ok (.value v2) w) (e3:opRun P ⟨some s3,op3,ty3,ps3,af3,some (j,true)⟩ ((a.put (some s1) v1).put (some s2) v2).eval w (fun v w'=>v=(.bool B)/\R w'))
  (h:∀u1 u2 u3 C w',RowKit.Hid (C=(acc&&B))->R w'->wpList P ops Q rest ((((a.put (some s1) u1).put (some s2) u2).put (some s3) u3).put (some s4) (.bool C)) w'):wpList P ops Q (⟨some s1,op1,ty1,ps1,af1,some (j,true)⟩::⟨some s2,op2,ty2,ps2,af2,some (j,true)⟩::⟨some s3,op3,ty3,ps3,af3,some (j,true)⟩::⟨some s4,Op.pick (.tmp t) (.tmp s3) (.const (.bool false)),ty4,ps4,af4,none⟩::rest) a w:=by
 cases acc with
 |true=>
  have hw:∀ {o:Oper} {a:Act},o.guard=some (j,true)->a.tmps[t]? =some (.bool true)->Region.wanted o (yielded ops a.tmps)=true:=fun hg ht=>by rw[bW hg hj ht];rfl
  have t1:(a.put (some s1) v1).tmps[t]? =some (.bool true):=by rw[bg n1,ht]
  have t2:((a.put (some s1) v1).put (some s2) v2).tmps[t]? =some (.bool true):=by rw[bg n2,t1]
  have t3:(((a.put (some s1) v1).put (some s2) v2).put (some s3) (.bool B)).tmps[t]? =some (.bool true):=by rw[bg n3,t2]
  refine Row.still (hw rfl ht) e1 ?_
  refine Row.still (hw rfl t1) e2 ?_
  refine Row.step (hw rfl t2) e3 ?_
  rintro _ w' ⟨rfl,hr⟩
  exact fj (conj:=true) (B:=B) rfl rfl rfl t3 (fg (by simp only[br];exact hsz)) (fun _=>rfl) (h _ _ _ _ _ (h_ rfl) hr)
 |false=>
  have hw:∀ {o:Oper} {a:Act},o.guard=some (j,true)->a.tmps[t]? =some (.bool false)->Region.wanted o (yielded ops a.tmps)=false:=fun hg ht=>by rw[bW hg hj ht];rfl
  have t1:(a.put (some s1) undef).tmps[t]? =some (.bool false):=by rw[bg n1,ht]
  have t2:((a.put (some s1) undef).put (some s2) undef).tmps[t]? =some (.bool false):=by rw[bg n2,t1]
  have t3:(((a.put (some s1) undef).put (some s2) undef).put (some s3) undef).tmps[t]? =some (.bool false):=by rw[bg n3,t2]
  refine wpList_skip (hw rfl ht) ?_
  refine wpList_skip (hw rfl t1) ?_
  refine wpList_skip (hw rfl t2) ?_
  exact fj (conj:=true) (B:=B) rfl rfl rfl t3 (fg (by simp only[br];exact hsz)) (fun e=>by cases e) (h _ _ _ _ _ (h_ rfl) hR)
theorem and4cx{op1 op2 op3 op4:Op}{ty1 ty2 ty3 ty4 ty5:TypeId}{ps1 ps2 ps3 ps4 ps5:String}{af1 af2 af3 af4 af5:Array Edge}
  (hj:(ops[j]?).bind (·.dst)=some t) (ht:a.tmps[t]? =some (.bool acc)) (n1:s1≠t) (n2:s2≠t) (n3:s3≠t) (n4:s4≠t) (hsz:s4<a.tmps.size) (R:World->Prop) (hR:R w)
  (e1:(execOp a.eval ⟨some s1,op1,ty1,ps1,af1,some (j,true)⟩).run P w= .ok (.value v1) w) (e2:(execOp (a.put (some s1) v1).eval ⟨some s2,op2,ty2,ps2,af2,some (j,true)⟩).run P w= .ok (.value v2) w) (e3:opRun P ⟨some s3,op3,ty3,ps3,af3,some (j,true)⟩ ((a.put (some s1) v1).put (some s2) v2).eval w (fun v w'=>v=v3/\R w')) (e4:∀w',R w'->(execOp (((a.put (some s1) v1).put (some s2) v2).put (some s3) v3).eval ⟨some s4,op4,ty4,ps4,af4,some (j,true)⟩).run P w'= .ok (.value (.bool B)) w')
  (h:∀u1 u2 u3 u4 C w',RowKit.Hid (C=(acc&&B))->R w'->wpList P ops Q rest (((((a.put (some s1) u1).put (some s2) u2).put (some s3) u3).put (some s4) u4).put (some s5) (.bool C)) w'):wpList P ops Q (⟨some s1,op1,ty1,ps1,af1,some (j,true)⟩::⟨some s2,op2,ty2,ps2,af2,some (j,true)⟩::⟨some s3,op3,ty3,ps3,af3,some (j,true)⟩::⟨some s4,op4,ty4,ps4,af4,some (j,true)⟩::⟨some s5,Op.pick (.tmp t) (.tmp s4) (.const (.bool false)),ty5,ps5,af5,none⟩::rest) a w:=by
 cases acc with
 |true=>
  have hw:∀ {o:Oper} {a:Act},o.guard=some (j,true)->a.tmps[t]? =some (.bool true)->Region.wanted o (yielded ops a.tmps)=true:=fun hg ht=>by rw[bW hg hj ht];rfl
  have t1:(a.put (some s1) v1).tmps[t]? =some (.bool true):=by rw[bg n1,ht]
  have t2:((a.put (some s1) v1).put (some s2) v2).tmps[t]? =some (.bool true):=by rw[bg n2,t1]
  have t3:(((a.put (some s1) v1).put (some s2) v2).put (some s3) v3).tmps[t]? =some (.bool true):=by rw[bg n3,t2]
  have t4:((((a.put (some s1) v1).put (some s2) v2).put (some s3) v3).put (some s4) (.bool B)).tmps[t]? =some (.bool true):=by rw[bg n4,t3]
  refine Row.still (hw rfl ht) e1 ?_
  refine Row.still (hw rfl t1) e2 ?_
  refine Row.step (hw rfl t2) e3 ?_
  rintro _ w' ⟨rfl,hr⟩
  refine Row.still (hw rfl t3) (e4 _ hr) ?_
  exact fj (conj:=true) (B:=B) rfl rfl rfl t4 (fg (by simp only[br];exact hsz)) (fun _=>rfl) (h _ _ _ _ _ _ (h_ rfl) hr)
 |false=>
  have hw:∀ {o:Oper} {a:Act},o.guard=some (j,true)->a.tmps[t]? =some (.bool false)->Region.wanted o (yielded ops a.tmps)=false:=fun hg ht=>by rw[bW hg hj ht];rfl
  have t1:(a.put (some s1) undef).tmps[t]? =some (.bool false):=by rw[bg n1,ht]
  have t2:((a.put (some s1) undef).put (some s2) undef).tmps[t]? =some (.bool false):=by rw[bg n2,t1]
  have t3:(((a.put (some s1) undef).put (some s2) undef).put (some s3) undef).tmps[t]? =some (.bool false):=by rw[bg n3,t2]
  have t4:((((a.put (some s1) undef).put (some s2) undef).put (some s3) undef).put (some s4) undef).tmps[t]? =some (.bool false):=by rw[bg n4,t3]
  refine wpList_skip (hw rfl ht) ?_
  refine wpList_skip (hw rfl t1) ?_
  refine wpList_skip (hw rfl t2) ?_
  refine wpList_skip (hw rfl t3) ?_
  exact fj (conj:=true) (B:=B) rfl rfl rfl t4 (fg (by simp only[br];exact hsz)) (fun e=>by cases e) (h _ _ _ _ _ _ (h_ rfl) hR)
end
end Go.Grd

namespace Go.Fre2
open Go Go.RowKit
open Go.Free (opRun opRun_wp Loud find bef gL fh frm cV br bT bU aI aS aZ dg aP OK Avail bC aL hist hist_mem hist_congr getD_some bj aG aM bF aO left cD)
class Rel where
 R:World->World->Prop
 refl:∀w,R w w
 trans:∀a b c,R a b->R b c->R a c
def Grow[Rel](w w':World):Prop:=Rel.R w w'
theorem Grow.refl[Rel](w:World):Grow w w:=Rel.refl w
theorem Grow.trans[Rel]{a b c:World}(h:Grow a b)(k:Grow b c):Grow a c:=Rel.trans _ _ _ h k
variable [Rel]

section
variable (P:Program) (ops:Array Oper) (b:Array Nat) (Rs:List (Nat×Loud)) (B:World->Prop)
def chain(fin:Act->List (Nat×(World->Prop))->Prop):List Oper->Nat->Act->List (Nat×(World->Prop))->Prop
 | [],_,a,h=>fin a h
 |o::rest,k,a,h=>
  if Region.wanted o (yielded ops a.tmps)then
   match find Rs k with
   |none=> ∃v,(∀w',B w'->(∀p∈h,bef b k p.1=true->p.2 w')->(execOp a.eval o).run P w'= .ok (.value v) w')/\chain fin rest (k+1) (a.put o.dst v) h
   |some (.det x)=>(∀w',B w'->(∀p∈h,bef b k p.1=true->p.2 w')->opRun P o a.eval w' fun u w2=>Grow w' w2/\u=x)/\chain fin rest (k+1) (a.put o.dst x) h
   |some (.ind mk r)=>(∀w',B w'->(∀p∈h,bef b k p.1=true->p.2 w')->opRun P o a.eval w' fun u w2=>Grow w' w2/\∃x,u=mk x/\r x w2)/\
     ∀x,chain fin rest (k+1) (a.put o.dst (mk x)) ((k,r x)::h)
  else chain fin rest (k+1) (a.put o.dst undef) h
end
section
variable {P:Program} {ops:Array Oper} {b:Array Nat} {Rs:List (Nat×Loud)} {B:World->Prop} {a0:Act}
def Avail(ops:Array Oper)(b:Array Nat)(Rs:List (Nat×Loud))(a0:Act)(n:Nat)(u:Nat->Nat)(v:Nat->Value)(k:Nat)(w:World):Prop:=
 ∀j,j<k->bef b k j=true->∀mk r,find Rs j=some (.ind mk r)->Region.wanted (ops.getD j default) (yielded ops (frm ops a0 v (fun i=>decide (i<j)) n).tmps)=true->r (u j) w
def StepT(P:Program)(ops:Array Oper)(b:Array Nat)(Rs:List (Nat×Loud))(B:World->Prop)(a0:Act)(n:Nat)(u:Nat->Nat)(v:Nat->Value)(k:Nat):Prop:=
 (Region.wanted (ops.getD k default) (yielded ops (frm ops a0 v (fun i=>decide (i<k)) n).tmps)=true->
  (find Rs k=none->∀w',B w'->Avail ops b Rs a0 n u v k w'->(execOp (frm ops a0 v (fun i=>decide (i<k)) n).eval (ops.getD k default)).run P w'= .ok (.value (v k)) w')/\
  (∀x,find Rs k=some (.det x)->v k=x/\∀w',B w'->Avail ops b Rs a0 n u v k w'->opRun P (ops.getD k default) (frm ops a0 v (fun i=>decide (i<k)) n).eval w' fun y w2=>Grow w' w2/\y=x)/\
  (∀mk r,find Rs k=some (.ind mk r)->v k=mk (u k)/\∀w',B w'->Avail ops b Rs a0 n u v k w'->opRun P (ops.getD k default) (frm ops a0 v (fun i=>decide (i<k)) n).eval w' fun y w2=>Grow w' w2/\∃x,y=mk x/\r x w2))/\
 (Region.wanted (ops.getD k default) (yielded ops (frm ops a0 v (fun i=>decide (i<k)) n).tmps)=false->v k=undef)
theorem StepT_congr{n:Nat}{u:Nat->Nat}{v v':Nat->Value}{k:Nat}(h:∀j,j<k+1->v j=v' j)(hs:StepT P ops b Rs B a0 n u v k):StepT P ops b Rs B a0 n u v' k:=by
 have e:∀i,i<=k->frm ops a0 v (fun j=>decide (j<i)) n=frm ops a0 v' (fun j=>decide (j<i)) n:=fun i hi=>aL _ _ _ _ (fun j _ hs=>h j (by simp at hs;omega))
 have ea:∀w,Avail ops b Rs a0 n u v' k w->Avail ops b Rs a0 n u v k w:=by
  intro w ha j hj hb mk r hf hw
  exact ha j hj hb mk r hf (by rw[<-e j (by omega)];exact hw)
 have ek:=h k (by omega)
 unfold StepT at*
 rw[<-e k (Nat.le_refl _), <-ek]
 refine⟨fun hw=> ?_,hs.2⟩
 obtain⟨h1,h2,h3⟩:=hs.1 hw
 exact⟨fun hf w' hb ha=>h1 hf w' hb (ea w' ha),fun x hf=>⟨(h2 x hf).1,fun w' hb ha=>(h2 x hf).2 w' hb (ea w' ha)⟩,fun mk r hf=>⟨(h3 mk r hf).1,fun w' hb ha=>(h3 mk r hf).2 w' hb (ea w' ha)⟩⟩
theorem chain_out{n:Nat}{fin:Act->List (Nat×(World->Prop))->Prop}(hn:n<=ops.size)(u:Nat->Nat):
  ∀(l:List Oper) (k:Nat) (v0:Nat->Value),k+l.length=n->(∀j,j<l.length->l[j]? =ops[k+j]?)->
   (∀j,j<k->StepT P ops b Rs B a0 n u v0 j)->chain P ops b Rs B fin l k (frm ops a0 v0 (fun i=>decide (i<k)) n) (hist ops Rs a0 n u v0 k)->
   ∃v,(∀j,j<n->StepT P ops b Rs B a0 n u v j)/\fin (frm ops a0 v (fun i=>decide (i<n)) n) (hist ops Rs a0 n u v n)
 | [],k,v0,hk,_,ht,hc=>by
  have:k=n:=by simpa using hk
  subst this
  exact⟨v0,ht,hc⟩
 |o::l,k,v0,hk,hl,ht,hc=>by
  simp only[List.length_cons]at hk
  have ho:ops.getD k default=o:=by
   have:=hl 0 (by simp)
   simp only[List.getElem?_cons_zero,Nat.add_zero]at this
   simp[Array.getD_eq_getD_getElem?, <-this]
  have hl':∀j,j<l.length->l[j]? =ops[k+1+j]? :=fun j hj=>by
   have:=hl (j+1) (by simp;omega)
   simpa[Nat.add_assoc,Nat.add_comm 1 j]using this
  -- the step to k+1,at a value x
  have go:∀x:Value,(StepT P ops b Rs B a0 n u (fun j=>if j=k then x else v0 j) k)->
    chain P ops b Rs B fin l (k+1) ((frm ops a0 v0 (fun i=>decide (i<k)) n).put o.dst x) (hist ops Rs a0 n u (fun j=>if j=k then x else v0 j) (k+1))->
    ∃v,(∀j,j<n->StepT P ops b Rs B a0 n u v j)/\fin (frm ops a0 v (fun i=>decide (i<n)) n) (hist ops Rs a0 n u v n):=by
   intro x hx hcx
   refine chain_out hn u l (k+1) (fun j=>if j=k then x else v0 j) (by omega) hl' ?_ ?_
   ·intro j hj
    by_cases e:j=k
    ·subst e;exact hx
    ·exact StepT_congr (fun i hi=>by simp[show i≠k by omega]) (ht j (by omega))
   ·have e:frm ops a0 (fun j=>if j=k then x else v0 j) (fun i=>decide (i<k+1)) n=(frm ops a0 v0 (fun i=>decide (i<k)) n).put o.dst x:=by
     rw[bC _ (k+1) n (by omega),bC _ k n (by omega)]
     simp only[frm,if_true]
     rw[ho,aL (fun j=>if j=k then x else v0 j) v0 _ k (fun j hj _=>by simp[show j≠k by omega])]
    rw[e];exact hcx
  have ek:∀x:Value,frm ops a0 (fun j=>if j=k then x else v0 j) (fun i=>decide (i<k)) n=frm ops a0 v0 (fun i=>decide (i<k)) n:=fun x=>
   aL _ _ _ _ (fun j _ hs=>by
     have:j<k:=by simpa using hs
     simp[show j≠k by omega])
  have eh:∀x:Value,hist ops Rs a0 n u (fun j=>if j=k then x else v0 j) k=hist ops Rs a0 n u v0 k:=fun x=>
   hist_congr (by omega) (fun j hj=>by simp[show j≠k by omega])
  have ea:∀(x:Value) w,Avail ops b Rs a0 n u (fun j=>if j=k then x else v0 j) k w->∀p∈hist ops Rs a0 n u v0 k,bef b k p.1=true->p.2 w:=by
   intro x w ha p hp hb
   rw[<-eh x]at hp
   obtain⟨h1,mk,r,hf,hw,h2⟩:=hist_mem hp
   rw[h2]
   exact ha p.1 h1 hb mk r hf hw
  unfold chain at hc
  by_cases hw:Region.wanted o (yielded ops (frm ops a0 v0 (fun i=>decide (i<k)) n).tmps)=true
  ·rw[if_pos hw]at hc
   cases hf:find Rs k with
   |none=>
    rw[hf]at hc
    obtain⟨x,h1,h2⟩:=hc
    refine go x ?_ ?_
    ·unfold StepT
     rw[ek x,ho]
     refine⟨fun _=>⟨fun _ w' hb ha=> ?_,fun y hy=>(by rw[hf]at hy;cases hy),fun mk r hy=>(by rw[hf]at hy;cases hy)⟩,fun hw'=>absurd hw (by rw[hw'];simp)⟩
     simp only[if_true]
     exact h1 w' hb (ea x w' ha)
    ·have:hist ops Rs a0 n u (fun j=>if j=k then x else v0 j) (k+1)=hist ops Rs a0 n u v0 k:=by
      simp only[hist,hf];rw[eh x];split<;>rfl
     rw[this];exact h2
   |some c=>
    cases c with
    |det y=>
     rw[hf]at hc
     obtain⟨h1,h2⟩:=hc
     refine go y ?_ ?_
     ·unfold StepT
      rw[ek y,ho]
      refine⟨fun _=>⟨fun hy=>(by rw[hf]at hy;cases hy),fun z hy=> ?_,fun mk r hy=>(by rw[hf]at hy;cases hy)⟩,fun hw'=>absurd hw (by rw[hw'];simp)⟩
      rw[hf]at hy
      cases hy
      exact⟨by simp,fun w' hb ha=>h1 w' hb (ea y w' ha)⟩
     ·have:hist ops Rs a0 n u (fun j=>if j=k then y else v0 j) (k+1)=hist ops Rs a0 n u v0 k:=by
       simp only[hist,hf];rw[eh y];split<;>rfl
      rw[this];exact h2
    |ind mk r=>
     rw[hf]at hc
     obtain⟨h1,h2⟩:=hc
     refine go (mk (u k)) ?_ ?_
     ·unfold StepT
      rw[ek,ho]
      refine⟨fun _=>⟨fun hy=>(by rw[hf]at hy;cases hy),fun z hy=>(by rw[hf]at hy;cases hy),fun mk' r' hy=> ?_⟩,fun hw'=>absurd hw (by rw[hw'];simp)⟩
      rw[hf]at hy
      cases hy
      exact⟨by simp,fun w' hb ha=>h1 w' hb (ea _ w' ha)⟩
     ·have:hist ops Rs a0 n u (fun j=>if j=k then mk (u k)else v0 j) (k+1)=(k,r (u k))::hist ops Rs a0 n u v0 k:=by
       simp only[hist,hf];rw[eh,ek,ho,if_pos hw]
      rw[this];exact h2 (u k)
  ·rw[if_neg hw]at hc
   refine go undef ?_ ?_
   ·unfold StepT
    rw[ek,ho]
    exact⟨fun hw'=>absurd hw' hw,fun _=>by simp⟩
   ·have:hist ops Rs a0 n u (fun j=>if j=k then undef else v0 j) (k+1)=hist ops Rs a0 n u v0 k:=by
     simp only[hist];rw[eh,ek,ho,if_neg hw]
    rw[this];exact hc
structure J (P:Program) (ops:Array Oper) (b:Array Nat) (Rs:List (Nat×Loud)) (B:World->Prop) (a0:Act) (n:Nat) (w0:World) (u:Nat->Nat) (v:Nat->Value) (listed:Array Bool) (a:Act) (w:World):Prop where
 inv:HeadInv .any ops n listed
 tr:∀j,j<n->StepT P ops b Rs B a0 n u v j
 fr:a=frm ops a0 v (fun j=>listed.getD j false) n
 bw:B w
 gw:Grow w0 w
 facts:∀j,j<n->listed.getD j false=true->∀mk r,find Rs j=some (.ind mk r)->Region.wanted (ops.getD j default) (yielded ops (frm ops a0 v (fun i=>decide (i<j)) n).tmps)=true->r (u j) w
theorem vals_alike{n:Nat}{listed:Array Bool}(ok:OK ops n b)(inv:HeadInv .any ops n listed){u u':Nat->Nat}{v v':Nat->Value}{w:World}(hB:B w)
  (tr:∀j,j<n->StepT P ops b Rs B a0 n u v j) (tr':∀j,j<n->StepT P ops b Rs B a0 n u' v' j)
  (hu:∀j,listed.getD j false=true->u j=u' j)
  (facts:∀j,j<n->listed.getD j false=true->∀mk r,find Rs j=some (.ind mk r)->Region.wanted (ops.getD j default) (yielded ops (frm ops a0 v (fun i=>decide (i<j)) n).tmps)=true->r (u j) w):
  ∀i,i<n->listed.getD i false=true->v i=v' i/\Region.wanted (ops.getD i default) (yielded ops (frm ops a0 v (fun j=>decide (j<i)) n).tmps)=Region.wanted (ops.getD i default) (yielded ops (frm ops a0 v' (fun j=>decide (j<i)) n).tmps):=by
 intro i
 induction i using Nat.strongRecOn with
 |_ i ih=>
  intro hin hl
  have hi:i<ops.size:=by have:=ok.le;omega
  have hal:=aO (ops:=ops) (o:=ops.getD i default) (a:=frm ops a0 v (fun j=>decide (j<i)) n) (a':=frm ops a0 v' (fun j=>decide (j<i)) n)
   (Region.noSelect_spec ok.sel i _ · · (bj hi)) (fun t ht=>by
    refine aZ _ _ _ _ t n (fun j hj hd=>⟨rfl,fun hs=> ?_⟩)
    have hji:j<i:=by simpa using hs
    rcases ok.looks i hin t ht j hj (by omega) hd with h|h
    ·exact(ih j hji hj (aG ok inv i hi hl j (by have:=ok.le;omega) h)).1
    ·have:=ok.lt j i (by have:=ok.le;omega) hi h;omega)
  refine⟨?_,hal.2⟩
  have s1:=tr i hin
  have s2:=tr' i hin
  unfold StepT at s1 s2
  rw[<-hal.2, <-hal.1]at s2
  have av:Avail ops b Rs a0 n u v i w:=fun j hj hb mk r hf hw=>facts j (by omega) (aG ok inv i hi hl j (by omega) hb) mk r hf hw
  have av':Avail ops b Rs a0 n u' v' i w:=fun j hj hb mk r hf hw=>by
   have hlj:=aG ok inv i hi hl j (by omega) hb
   rw[<-hu j hlj]
   exact facts j (by omega) hlj mk r hf (by rw[(ih j hj (by omega) hlj).2];exact hw)
  cases hw:Region.wanted (ops.getD i default) (yielded ops (frm ops a0 v (fun j=>decide (j<i)) n).tmps)with
  |false=>rw[s1.2 hw,s2.2 hw]
  |true=>
   obtain⟨a1,a2,a3⟩:=s1.1 hw
   obtain⟨c1,c2,c3⟩:=s2.1 hw
   cases hf:find Rs i with
   |none=>
    have e1:=a1 hf w hB av
    have e2:=c1 hf w hB av'
    rw[e1]at e2
    simpa using e2
   |some c=>
    cases c with
    |det x=>rw[(a2 x hf).1,(c2 x hf).1]
    |ind mk r=>rw[(a3 mk r hf).1,(c3 mk r hf).1,hu i hl]
def LoudMono(Rs:List (Nat×Loud)):Prop:=∀j mk r,find Rs j=some (.ind mk r)->∀x w w',r x w->Grow w w'->r x w'
theorem J_step{n:Nat}{w0:World}{u:Nat->Nat}{v:Nat->Value}{listed:Array Bool}{a:Act}{w:World}{Q:Exit->Act->World->Prop}(ok:OK ops n b)(hmono:LoudMono Rs)
  (hBm:∀w w',B w->Grow w w'->B w') (hall:∀u,∃v,∀j,j<n->StepT P ops b Rs B a0 n u v j)
  (hJ:J P ops b Rs B a0 n w0 u v listed a w) {i:Nat} (hin:i<n) (hr:i∈Region.ready .any ops listed):
  wpOp P ops Q i (fun a' w'=> ∃u v,J P ops b Rs B a0 n w0 u v (listed.setIfInBounds i true) a' w') a w:=by
 obtain⟨hul,o,ho,_⟩:=mem_ready.1 hr
 have hi:i<ops.size:=(Array.getElem?_eq_some_iff.1 ho).1
 have hul':=getD_both hul
 have hod:=getD_some ho
 have inv':=hJ.inv.set hr hin
 have hdist:∀j,j<n->j≠i->(ops.getD j default).dst=none\/(ops.getD j default).dst≠(ops.getD i default).dst:=by
  intro j hj hne
  rcases Nat.lt_or_gt_of_ne hne with h|h
  ·exact ok.dist j i h hin
  ·rcases ok.dist i j h hj with h'|h'
   ·by_cases e:(ops.getD j default).dst=none
    ·exact .inl e
    ·right;rw[h'];exact e
   ·right;exact Ne.symm h'
 have hlset:(fun j=>(listed.setIfInBounds i true).getD j false)=fun j=>if j=i then true else listed.getD j false:=by
  funext j
  by_cases e:j=i
  ·subst e
   have:j<listed.size:=by rw[hJ.inv.size];exact hi
   simp[this]
  ·rw[if_neg e,getD_set_ne false (Ne.symm e)]
 have hal:=aO (ops:=ops) (o:=o) (a:=a) (a':=frm ops a0 v (fun j=>decide (j<i)) n)
  (Region.noSelect_spec ok.sel i _ · · ho) (fun t ht=>by rw[hJ.fr];exact bF ok hJ.inv hin hr v t (by rw[hod];exact ht))
 have av:Avail ops b Rs a0 n u v i w:=fun j hj hb mk r hf hw=>hJ.facts j (by omega) (aM ok hJ.inv hr (by omega) hb) mk r hf hw
 have st:=hJ.tr i hin
 unfold StepT at st
 rw[hod]at st
 -- the same dq,the frame with one value more
 have keep:∀w2,Grow w w2->(∀mk r,find Rs i=some (.ind mk r)->Region.wanted o (yielded ops (frm ops a0 v (fun j=>decide (j<i)) n).tmps)=true->r (u i) w2)->
   ∃u v,J P ops b Rs B a0 n w0 u v (listed.setIfInBounds i true) (a.put o.dst (v i)) w2:=by
  intro w2 hg hfi
  refine⟨u,v,inv',hJ.tr, ?_,hBm _ _ hJ.bw hg,hJ.gw.trans hg, ?_⟩
  ·rw[hlset,aP v _ i n hin hul' hdist v (fun _ _=>rfl),hod,hJ.fr]
  ·intro j hj hl mk r hf hw
   by_cases e:j=i
   ·subst e;exact hfi mk r hf (by rw[hod]at hw;exact hw)
   ·rw[getD_set_ne false (Ne.symm e)]at hl
    exact hmono j mk r hf _ _ _ (hJ.facts j hj hl mk r hf hw) hg
 unfold wpOp
 simp only[ho]
 rw[hal.2]
 cases hw:Region.wanted o (yielded ops (frm ops a0 v (fun j=>decide (j<i)) n).tmps)with
 |false=>
  simp only[Bool.false_eq_true,if_false]
  obtain⟨u',v',h⟩:=keep w (Grow.refl w) (fun mk r _ hw'=>by rw[hw]at hw';cases hw')
  have:=st.2 hw
  refine⟨u,v, ?_⟩
  have hh:J P ops b Rs B a0 n w0 u v (listed.setIfInBounds i true) (a.put o.dst (v i)) w:=by
   refine⟨inv',hJ.tr, ?_,hJ.bw,hJ.gw, ?_⟩
   ·rw[hlset,aP v _ i n hin hul' hdist v (fun _ _=>rfl),hod,hJ.fr]
   ·intro j hj hl mk r hf hw2
    by_cases e:j=i
    ·subst e;rw[hod,hw]at hw2;cases hw2
    ·rw[getD_set_ne false (Ne.symm e)]at hl
     exact hJ.facts j hj hl mk r hf hw2
  rw[this]at hh
  exact hh
 |true=>
  simp only[if_true]
  left
  obtain⟨s1,s2,s3⟩:=st.1 hw
  cases hf:find Rs i with
  |none=>
   have e:=s1 hf w hJ.bw av
   rw[<-hal.1]at e
   unfold Oper.wp
   rw[e]
   simp only[Oper.upon]
   refine⟨u,v,inv',hJ.tr, ?_,hJ.bw,hJ.gw, ?_⟩
   ·rw[hlset,aP v _ i n hin hul' hdist v (fun _ _=>rfl),hod,hJ.fr]
   ·intro j hj hl mk r hf' hw2
    by_cases e:j=i
    ·subst e;rw[hf]at hf';cases hf'
    ·rw[getD_set_ne false (Ne.symm e)]at hl
     exact hJ.facts j hj hl mk r hf' hw2
  |some c=>
   cases c with
   |det x=>
    obtain⟨ex,hrun⟩:=s2 x hf
    have:=hrun w hJ.bw av
    have hrun':opRun P o a.eval w fun y w2=>Grow w w2/\y=x:=by
     unfold opRun at*;rw[hal.1];exact this
    refine opRun_wp hrun' ?_
    rintro y w2 ⟨hg,rfl⟩
    refine⟨u,v,inv',hJ.tr, ?_,hBm _ _ hJ.bw hg,hJ.gw.trans hg, ?_⟩
    ·rw[hlset,aP v _ i n hin hul' hdist v (fun _ _=>rfl),hod,hJ.fr,ex]
    ·intro j hj hl mk r hf' hw2
     by_cases e:j=i
     ·subst e;rw[hf]at hf';cases hf'
     ·rw[getD_set_ne false (Ne.symm e)]at hl
      exact hmono j mk r hf' _ _ _ (hJ.facts j hj hl mk r hf' hw2) hg
   |ind mk r=>
    obtain⟨_,hrun⟩:=s3 mk r hf
    have:=hrun w hJ.bw av
    have hrun':opRun P o a.eval w fun y w2=>Grow w w2/\∃x,y=mk x/\r x w2:=by
     unfold opRun at*;rw[hal.1];exact this
    refine opRun_wp hrun' ?_
    rintro y w2 ⟨hg,x,rfl,hx⟩
    obtain⟨v',tr'⟩:=hall (fun j=>if j=i then x else u j)
    have hva:=vals_alike ok hJ.inv hJ.bw hJ.tr tr' (fun j hl=>by
     have:j≠i:=fun e=>by subst e;rw[hul']at hl;cases hl
     simp[this]) hJ.facts
    -- the text's frame at i is alike under v and v'
    have hal2:=aO (ops:=ops) (o:=o) (a:=frm ops a0 v (fun j=>decide (j<i)) n) (a':=frm ops a0 v' (fun j=>decide (j<i)) n)
     (Region.noSelect_spec ok.sel i _ · · ho) (fun t ht=>by
      refine aZ _ _ _ _ t n (fun j hj hd=>⟨rfl,fun hs=> ?_⟩)
      have hji:j<i:=by simpa using hs
      rcases ok.looks i hin t (by rw[hod];exact ht) j hj (by omega) hd with h|h
      ·exact(hva j hj (aM ok hJ.inv hr (by omega) h)).1
      ·have:=ok.lt j i (by omega) hi h;omega)
    have ev:v' i=mk x:=by
     have:=tr' i hin
     unfold StepT at this
     rw[hod, <-hal2.2]at this
     have:=((this.1 hw).2.2 mk r hf).1
     simpa using this
    refine⟨fun j=>if j=i then x else u j,v',inv',tr', ?_,hBm _ _ hJ.bw hg,hJ.gw.trans hg, ?_⟩
    ·rw[hlset,aP v _ i n hin hul' hdist v' (fun j hs=> ?_),hod,hJ.fr,ev]
     by_cases hjn:j<n
     ·exact(hva j hjn hs).1
     ·have:listed.getD j false=false:=by
       by_cases hjs:j<ops.size
       ·exact getD_both (hJ.inv.tail j (by omega) hjs)
       ·rw[Array.getD_eq_getD_getElem?,Array.getElem?_eq_none (by rw[hJ.inv.size];omega)];rfl
      rw[this]at hs;cases hs
    ·intro j hj hl mk' r' hf' hw2
     by_cases e:j=i
     ·subst e;rw[hf]at hf';cases hf';simpa using hx
     ·rw[getD_set_ne false (Ne.symm e)]at hl
      simp only[if_neg e]
      exact hmono j mk' r' hf' _ _ _ (hJ.facts j hj hl mk' r' hf' (by rw[(hva j hj hl).2];exact hw2)) hg
theorem region_free{n:Nat}{w0:World}{Q:Exit->Act->World->Prop}(ok:OK ops n b)(hmono:LoudMono Rs)(hBm:∀w w',B w->Grow w w'->B w')
  (hall:∀u,∃v,(∀j,j<n->StepT P ops b Rs B a0 n u v j)/\(∀w,B w->Grow w0 w->(∀p∈hist ops Rs a0 n u v n,p.2 w)->wpList P ops Q (ops.toList.drop n) (frm ops a0 v (fun i=>decide (i<n)) n) w)):
  ∀(m:Nat) (listed:Array Bool) (a:Act) (w:World),left listed n=m->(∃u v,J P ops b Rs B a0 n w0 u v listed a w)->wpAny P .any ops Q (m+(ops.size-n)) listed a w:=by
 intro m
 induction m with
 |zero=>
  rintro listed a w hm ⟨u,v,hJ⟩
  have hl:∀j,j<n->listed.getD j false=true:=by
   intro j hj
   have:=List.countP_eq_zero.1 hm j (by simpa using hj)
   simpa using this
  have e:listed=Array.replicate n true++Array.replicate (ops.size-n) false:=by
   apply Array.ext
   ·rw[hJ.inv.size];simp;have:=ok.le;omega
   ·intro i h1 h2
    by_cases hi:i<n
    ·have:=hl i hi
     simp[h1]at this
     rw[this,Array.getElem_append_left (by simpa using hi)];simp
    ·have:=hJ.inv.tail i (by omega) (by rw[<-hJ.inv.size];exact h1)
     simp[h1]at this
     rw[this,Array.getElem_append_right (by simp;omega)];simp
  obtain⟨v',tr',hfin⟩:=hall u
  have hva:=vals_alike ok hJ.inv hJ.bw hJ.tr tr' (fun _ _=>rfl) hJ.facts
  have ef:a=frm ops a0 v' (fun i=>decide (i<n)) n:=by
   rw[hJ.fr]
   refine dg (by rw[aI,aI]) (by rw[aS,aS]) (fun t=>aZ _ _ _ _ t n (fun j hj _=>⟨by rw[hl j hj];simp[hj],fun _=>(hva j hj (hl j hj)).1⟩))
  have hw:=hfin w hJ.bw hJ.gw (fun p hp=>by
   obtain⟨h1,mk,r,hf,hwt,h2⟩:=hist_mem hp
   rw[h2]
   exact hJ.facts p.1 h1 (hl p.1 h1) mk r hf (by rw[(hva p.1 h1 (hl p.1 h1)).2];exact hwt))
  rw[<-ef]at hw
  have hlen:(ops.toList.drop n).length=ops.size-n:=by simp
  have:=wpAny_of_seq (md:= .any) (Q':=Q) (ops.toList.drop n) n listed a w (fun j=>by simp[List.getElem?_drop]) (by rw[hlen,e];exact ok.seq) hw
  rw[hlen]at this
  rw[Nat.zero_add];exact this
 |succ m ih=>
  rintro listed a w hm ⟨u,v,hJ⟩
  rw[show m+1+(ops.size-n)=(m+(ops.size-n))+1 by omega]
  refine⟨fun hnil=> ?_,fun i hi=> ?_⟩
  ·exfalso
   have hex:∃k,k<n/\listed.getD k false=false/\∀j,j<k->listed.getD j false=true:=by
    have:∀N,N<=n->(∀j,j<N->listed.getD j false=true)\/∃k,k<n/\listed.getD k false=false/\∀j,j<k->listed.getD j false=true:=by
     intro N
     induction N with
     |zero=>intro _;left;intro j hj;omega
     |succ N ihN=>
      intro hN
      rcases ihN (by omega)with h|h
      ·cases hl:listed.getD N false with
       |false=>right;exact⟨N,by omega,hl,h⟩
       |true=>
         left;intro j hj;by_cases e:j=N
         ·subst e;exact hl
         ·exact h j (by omega)
      ·exact .inr h
    rcases this n (Nat.le_refl _)with h|h
    ·have:left listed n=0:=List.countP_eq_zero.2 (fun j hj=>by have:=h j (by simpa using hj);simp at this⊢;exact this)
     omega
    ·exact h
   obtain⟨k,hk,hkl,hlow⟩:=hex
   have hks:k<ops.size:=by have:=ok.le;omega
   have:k∈Region.ready .any ops listed:=mem_ready.2 ⟨getD_in (by rw[hJ.inv.size];exact hks) hkl,_,bj hks,fun e he hb=>hlow e.on (ok.edge k hks e he hb).1⟩
   rw[hnil]at this;cases this
  ·have hin:i<n:=by
    rcases Nat.lt_or_ge i n with h|h
    ·exact h
    ·exfalso
     obtain⟨_,o,ho,_⟩:=mem_ready.1 hi
     have his:i<ops.size:=(Array.getElem?_eq_some_iff.1 ho).1
     have:left listed n=0:=List.countP_eq_zero.2 (fun j hj=>by
      have hjn:j<n:=by simpa using hj
      have:=aM ok hJ.inv hi (by omega) (ok.tail i j h his hjn)
      simp at this⊢;exact this)
     omega
   obtain⟨hul,o,ho,_⟩:=mem_ready.1 hi
   have his:i<ops.size:=(Array.getElem?_eq_some_iff.1 ho).1
   have hls:i<listed.size:=by rw[hJ.inv.size];exact his
   have hc:left (listed.setIfInBounds i true) n=m:=by have:=cD (n:=n) hin hls (getD_both hul);omega
   exact wpOp_mono (fun a' w' h=>ih _ a' w' hc h) (J_step ok hmono hBm (fun u=>let ⟨v,h,_⟩:=hall u;⟨v,h⟩) hJ hin hi)
theorem wp_region_free{id:Nat}{Q:Exit->Act->World->Prop}{a:Act}{w:World}{l:List Oper}(n:Nat)(Rs:List (Nat×Loud))(B:World->Prop)
  (hm:P.follows .mixedOrders=true) (hok:fh l.toArray n=true) (hmono:LoudMono Rs) (hB0:B w.drew) (hBm:∀w w',B w->Grow w w'->B w')
  (h:chain P l.toArray (Region.before l.toArray) Rs B (fun a' hs=> ∀w',B w'->Grow w.drew w'->(∀p∈hs,p.2 w')->wpList P l.toArray Q (l.drop n) a' w') (l.take n) 0 a []):
  (Code.region id l.toArray true).wp P Q a w:=by
 have ok:=OK.of hok
 have hle:n<=l.length:=by simpa using ok.le
 have hall:∀u,∃v,(∀j,j<n->StepT P l.toArray (Region.before l.toArray) Rs B a n u v j)/\(∀w',B w'->Grow w.drew w'->(∀p∈hist l.toArray Rs a n u v n,p.2 w')->wpList P l.toArray Q (l.toArray.toList.drop n) (frm l.toArray a v (fun i=>decide (i<n)) n) w'):=by
  intro u
  have e0:frm l.toArray a (fun _=>undef) (fun i=>decide (i<0)) n=a:=by
   rw[bC _ 0 n (by omega)];rfl
  exact chain_out ok.le u (l.take n) 0 (fun _=>undef) (by simp;omega) (fun j hj=>by
   have:j<n:=by simp at hj;omega
   simp[this]) (fun j hj=>by omega) (by rw[e0];exact h)
 refine wp_region_any hm ?_
 have inv0:HeadInv .any l.toArray n (Array.replicate l.toArray.size false):=
  ⟨by simp,fun j oj _ hl=>(by rw[getD_replicate_false]at hl;cases hl),fun t _ ht=>getD_in (by simpa using ht) (getD_replicate_false _ _)⟩
 obtain⟨v,tr,_⟩:=hall (fun _=>0)
 have hleft:left (Array.replicate l.toArray.size false) n=n:=by
  unfold left
  have:(List.range n).countP (fun j=> !(Array.replicate l.toArray.size false).getD j false)=(List.range n).length:=List.countP_eq_length.2 (fun j _=>by rw[getD_replicate_false];rfl)
  rw[this];simp
 have J0:J P l.toArray (Region.before l.toArray) Rs B a n w.drew (fun _=>0) v (Array.replicate l.toArray.size false) a w.drew:=by
  refine⟨inv0,tr, ?_,hB0,Grow.refl _,fun j hj hl=>(by rw[getD_replicate_false]at hl;cases hl)⟩
  have:(fun j=>(Array.replicate l.toArray.size false).getD j false)=fun i=>decide (i<0):=by funext j;rw[getD_replicate_false];simp
  rw[this,bC _ 0 n (by omega)];rfl
 have:=region_free (w0:=w.drew) (Q:=Q) ok hmono hBm hall n _ a w.drew hleft ⟨_,v,J0⟩
 rw[show n+(l.toArray.size-n)=l.toArray.size by simp;omega]at this
 exact this
variable {fin:Act->List (Nat×(World->Prop))->Prop} {o:Oper} {rest:List Oper} {k:Nat} {a:Act} {h:List (Nat×(World->Prop))}
theorem chain_still(hw:Region.wanted o (yielded ops a.tmps)=true)(hf:find Rs k=none){v:Value}
  (h1:∀w',B w'->(∀p∈h,bef b k p.1=true->p.2 w')->(execOp a.eval o).run P w'= .ok (.value v) w') (h2:chain P ops b Rs B fin rest (k+1) (a.put o.dst v) h):
  chain P ops b Rs B fin (o::rest) k a h:=by
 unfold chain;rw[if_pos hw,hf];exact⟨v,h1,h2⟩
theorem chain_det(hw:Region.wanted o (yielded ops a.tmps)=true){x:Value}(hf:find Rs k=some (.det x))
  (h1:∀w',B w'->(∀p∈h,bef b k p.1=true->p.2 w')->opRun P o a.eval w' fun u w2=>Grow w' w2/\u=x) (h2:chain P ops b Rs B fin rest (k+1) (a.put o.dst x) h):
  chain P ops b Rs B fin (o::rest) k a h:=by
 unfold chain;rw[if_pos hw,hf];exact⟨h1,h2⟩
theorem chain_ind(hw:Region.wanted o (yielded ops a.tmps)=true){mk:Nat->Value}{r:Nat->World->Prop}(hf:find Rs k=some (.ind mk r))
  (h1:∀w',B w'->(∀p∈h,bef b k p.1=true->p.2 w')->opRun P o a.eval w' fun u w2=>Grow w' w2/\∃x,u=mk x/\r x w2)
  (h2:∀x,chain P ops b Rs B fin rest (k+1) (a.put o.dst (mk x)) ((k,r x)::h)):
  chain P ops b Rs B fin (o::rest) k a h:=by
 unfold chain;rw[if_pos hw,hf];exact⟨h1,h2⟩
theorem chain_skip(hw:Region.wanted o (yielded ops a.tmps)=false)(h2:chain P ops b Rs B fin rest (k+1) (a.put o.dst undef) h):
  chain P ops b Rs B fin (o::rest) k a h:=by
 unfold chain;rw[if_neg (by rw[hw];simp)];exact h2
theorem chain_nil(h2:fin a h):chain P ops b Rs B fin [] k a h:=h2
end
theorem mono_det{Rs:List (Nat×Loud)}(h:∀j mk r,find Rs j≠some (.ind mk r)):LoudMono Rs:=fun j mk r hf=>absurd hf (h j mk r)
attribute [irreducible] chain
end Go.Fre2

namespace Go.Apl
open Go Go.RowKit Go.Blk Go.Opn
structure RowL (g:Nat) (T:TypeId) (X E:List Value) (w w':World):Prop where
 os:w'.os=w.os
 tape:w'.tape=w.tape
 output:w'.output=w.output
 size:w.heap.size<=w'.heap.size
 block:∀k,k<w.heap.size->k≠g->w'.heap[k]? =w.heap[k]?
 row:∀cur:Array Value,w.heap[g]? =some (.cells cur T (0,0))->∃cur':Array Value,w'.heap[g]? =some (.cells cur' T (0,0))/\cur'.size=cur.size/\(cur.toList.take X.length=X->cur'.toList.take X.length=X)/\(cur.toList=X++E->cur'.toList=X++E)
section
variable {g:Nat} {T:TypeId} {X E:List Value}
theorem RowL.refl(w:World):RowL g T X E w w:=⟨rfl,rfl,rfl,Nat.le_refl _,fun _ _ _=>rfl,fun cur h=>⟨cur,h,rfl,id,id⟩⟩
theorem RowL.trans(a b c:World)(h:RowL g T X E a b)(k:RowL g T X E b c):RowL g T X E a c:=
 ⟨k.os.trans h.os,k.tape.trans h.tape,k.output.trans h.output,Nat.le_trans h.size k.size,fun i hi hn=>(k.block i (Nat.lt_of_lt_of_le hi h.size) hn).trans (h.block i hi hn),fun cur hc=>by
  obtain⟨c1,h1,h2,h3,h4⟩:=h.row cur hc
  obtain⟨c2,k1,k2,k3,k4⟩:=k.row c1 h1
  exact⟨c2,k1,k2.trans h2,fun e=>k3 (h3 e),fun e=>k4 (h4 e)⟩⟩
theorem RowL.grow{w w':World}(h:Below w.heap.size w w'):RowL g T X E w w':=
 ⟨h.os,h.tape,h.output,h.size,fun k hk _=>h.block k hk,fun cur hc=>⟨cur,(h.block g (Array.getElem?_eq_some_iff.1 hc).1).trans hc,rfl,id,id⟩⟩
end
section
variable {α:Type} {ec:α->List Value} {sz:Nat}
theorem flat_len(hz:∀e,(ec e).length=sz):∀l:List α,(l.flatMap ec).length=l.length*sz
 | []=>by simp
 |x::l=>by
  rw[List.flatMap_cons,List.length_append,hz,flat_len hz l,List.length_cons,Nat.add_mul];omega
theorem flat_get(hz:∀e,(ec e).length=sz):∀(l:List α) (j:Nat) (u:Value),(l.flatMap ec)[j]? =some u->∃i e p,l[i]? =some e/\(ec e)[p]? =some u/\j=i*sz+p
 | [],j,u,h=>by simp at h
 |x::l,j,u,h=>by
  rw[List.flatMap_cons]at h
  by_cases hj:j<sz
  ·rw[List.getElem?_append_left (by rw[hz];exact hj)]at h
   exact⟨0,x,j,rfl,h,by omega⟩
  ·rw[List.getElem?_append_right (by rw[hz];omega),hz]at h
   obtain⟨i,e,p,h1,h2,h3⟩:=flat_get hz l _ u h
   exact⟨i+1,e,p,h1,h2,by rw[Nat.add_mul];omega⟩
theorem flat_at(hz:∀e,(ec e).length=sz):∀(l:List α) (i:Nat) (e:α) (p:Nat) (u:Value),l[i]? =some e->(ec e)[p]? =some u->(l.flatMap ec)[i*sz+p]? =some u
 | [],i,e,p,u,h,_=>by simp at h
 |x::l,0,e,p,u,h,hp=>by
  simp at h;subst h
  have:=(List.getElem?_eq_some_iff.1 hp).1
  rw[List.flatMap_cons,Nat.zero_mul,Nat.zero_add,List.getElem?_append_left this];exact hp
 |x::l,i+1,e,p,u,h,hp=>by
  rw[List.flatMap_cons,List.getElem?_append_right (by rw[hz,Nat.add_mul];omega),hz]
  have:=flat_at hz l i e p u (by simpa using h) hp
  rw[<-this];congr 1;rw[Nat.add_mul];omega
theorem sl_of_cells{w:World}{b:Nat}{cur:Array Value}{T:TypeId}{l:List α}(hz:∀e,(ec e).length=sz)(hb:w.heap[b]? =some (.cells cur T (0,0)))(hc:∀(j:Nat) (u:Value),(l.flatMap ec)[j]? =some u->cur[j]? =some u):SL w sz ec (some ⟨b,0,none⟩) l:=
 ⟨fun _=>⟨b,0,rfl,fun i e hi p u hu=>by
  have:=hc _ u (flat_at hz l i e p u hi hu)
  simp[World.cell?,hb,this]⟩⟩
theorem sl_flat{w:World}{b off:Nat}{l:List α}(hz:∀e,(ec e).length=sz)(h:SL w sz ec (some ⟨b,off,none⟩) l):∀j u,(l.flatMap ec)[j]? =some u->w.cell? ((⟨b,off,none⟩:Addr).add j)=some u:=by
 intro j u hu
 obtain⟨i,e,p,h1,h2,rfl⟩:=flat_get hz l j u hu
 obtain⟨b',off',e1,h3⟩:=h.cells (by rintro rfl;simp at h1)
 cases e1
 rw[addr_add];exact h3 i e h1 p u h2
end
theorem own_at{α:Type}{ec:α->List Value}{sz:Nat}{w:World}{base:Nat}{e:TypeId}{v:Value}{l:List α}(hec:∀x,(ec x).length=sz)(h:w.ownsRow base e sz v l.length (l.flatMap ec))(hl:l≠ []):
  ∃g cap cur,v= .slice (some ⟨g,0,none⟩) l.length cap/\base<=g/\w.heap[g]? =some (.cells cur e (0,0))/\l.length<=cap/\cap<=maxLen/\cur.toList.take (l.length*sz)=l.flatMap ec/\SL w sz ec (some ⟨g,0,none⟩) l:=by
 obtain⟨_,⟨_,h0⟩|⟨g,cap,cur,h1,h2,h3,h4,h5,h6,h7⟩⟩:=h
 ·exact absurd (List.length_eq_zero_iff.1 h0) hl
 ·refine⟨g,cap,cur,h1,h2,h3,h4,h5,h7,sl_of_cells hec h3 (fun j u hu=> ?_)⟩
  rw[<-h7]at hu
  rw[List.getElem?_take]at hu
  split at hu
  ·simpa using hu
  ·cases hu
theorem set_heap{w:World}{g k:Nat}{cur:Array Value}{T:TypeId}{v:Value}(hg:w.heap[g]? =some (.cells cur T (0,0))):(w.setCell ⟨g,k,none⟩ v).heap[g]? =some (.cells (cur.toList.set k v).toArray T (0,0)):=by
 have hb:Blk w g cur.toList T:=by unfold Blk;simpa using hg
 exact hb.set k v
theorem row_frozen{w:World}{g k:Nat}{cur:Array Value}{T:TypeId}(hg:w.heap[g]? =some (.cells cur T (0,0))):w.frozen? ⟨g,k,none⟩=false:=by
 have hb:Blk w g cur.toList T:=by unfold Blk;simpa using hg
 exact hb.frozen k
theorem exec_slice{P:Program}{o:Oper}{ρ:Operand->Value}{w w':World}{t:TypeId}{x:Operand}{v:Value}(ho:o.op= .buildSlice t 1 #[(0,x)])(h:(Instr.buildSlice t 1 #[(0,ρ x)]).run P w= .ok v w'):(execOp ρ o).run P w= .ok (.value v) w':=by
 unfold execOp
 simp[ho,h]
theorem exec_append{P:Program}{o:Oper}{ρ:Operand->Value}{w w':World}{t:TypeId}{s x:Operand}{u y v:Value}(ho:o.op= .call {callee:= .builtin .append,args:= #[s,x],argTypes:= #[t,t]})(hs:ρ s=u)(hx:ρ x=y)
  (h:(Builtin.append_ #[t,t] o.type #[u,y]).run P w= .ok v w'):(execOp ρ o).run P w= .ok (.value v) w':=by
 unfold execOp
 simp only[ho,resolve,invoke,builtin,Sem.run_bind,Sem.run_pure,Result.andThen_ok,List.map_toArray,List.map_cons,List.map_nil,hs,hx,h]
end Go.Apl

namespace Go.Mg
open Go Go.RowKit Go.Mk
structure Oth (base b:Nat) (w w':World):Prop where
 os:w'.os=w.os
 tape:w'.tape=w.tape
 output:w'.output=w.output
 size:w.heap.size<=w'.heap.size
 block:∀g,g<base->g≠b->w'.heap[g]? =w.heap[g]?

section
variable {α γ:Type} {enc:α->Value} {ok:α->Prop} {ec:γ->List Value} {w:World} {base:Nat} {T:TypeId} {sz b:Nat} {L:List (α×(Value×List γ))}
variable [DecidableEq α]
theorem Groups.store'{w1 w2:World}(h:Groups w enc ok ec base T sz b L)(hbb:b<base){x:α}{v v':Value}{zs zs':List γ}(hat:(v,zs)=(.slice none 0 0,[])/\get L x=none\/get L x=some (v,zs))
  (hk1:∀g,base<=g->g<w.heap.size->v.ownBlock≠some g->w1.heap[g]? =w.heap[g]?) (hs1:w.heap.size<=w1.heap.size)
  (hr1:w1.ownsRow base T sz v' zs'.length (zs'.flatMap ec)) (hv':v'.ownBlock=v.ownBlock\/∃g,v'.ownBlock=some g/\w.heap.size<=g)
  (hm:MapIs w2 enc ok Prod.fst b (put L x (v',zs'))) (hg:w1.grownBy w2 (some b)):Groups w2 enc ok ec base T sz b (put L x (v',zs')):=by
 have hn:=h.map.nodup
 have hoff:∀p∈L,p.1≠x->∀g,p.2.1.ownBlock=some g->v.ownBlock≠some g:=by
  intro p hp hpx g hg hv
  rcases hat with⟨e,_⟩|hx
  ·injection e with e _;rw[e]at hv;cases hv
  ·have hm:=get_mem hx
   obtain⟨i,hi,ei⟩:=List.getElem_of_mem hp
   obtain⟨j,hj,ej⟩:=List.getElem_of_mem hm
   have hap:=List.pairwise_iff_getElem.1 h.apart
   rcases Nat.lt_trichotomy i j with hij|hij|hij
   ·have:=hap i j hi hj hij g (by rw[ei];exact hg)
    rw[ej]at this
    exact this hv
   ·subst hij
    rw[ei]at ej
    exact hpx (by rw[ej])
   ·have:=hap j i hj hi hij g (by rw[ej];exact hv)
    rw[ei]at this
    exact this hg
 refine⟨hm,fun p hp=> ?_,apart_put hn h.apart fun p hp hpx g hg1 hg2=> ?_⟩
 ·rcases dN hp with rfl|⟨hp,hpx⟩
  ·exact owns_keep hr1 fun g hgo=>hg.block g (owns_lt hr1 hgo).2 (fun e=>by injection e with e;have:=(owns_lt hr1 hgo).1;omega)
  ·have hpx:p.1≠x:=hpx.elim id fun h1=>absurd hn h1
   refine owns_keep (h.row p hp) fun g hgo=> ?_
   have hl:=owns_lt (h.row p hp) hgo
   rw[hg.block g (by omega) (fun e=>by injection e with e;omega)]
   exact hk1 g hl.1 hl.2 (hoff p hp hpx g hgo)
 ·rcases hv' with e|⟨g',e,hge⟩
  ·rw[e]at hg2;exact hoff p hp hpx g hg1 hg2
  ·rw[e]at hg2;injection hg2 with hg2
   have:=(owns_lt (h.row p hp) hg1).2
   omega
end
section
variable {α γ:Type} [DecidableEq α]
def bQ(L:List (α×(Value×List γ))):List (α×List γ):=L.map fun p=>(p.1,p.2.2)
theorem dE(L:List (α×(Value×List γ)))(x:α):get (bQ L) x=(get L x).map Prod.snd:=by
 induction L with
 |nil=>rfl
 |cons p r ih=>
  show Mk.get ((p.1,p.2.2)::bQ r) x=_
  rw[Mk.get,Mk.get]
  by_cases h:p.1=x
  ·rw[if_pos h,if_pos h];rfl
  ·rw[if_neg h,if_neg h,ih]
theorem fF(L:List (α×(Value×List γ)))(x:α)(v:Value)(zs:List γ):bQ (put L x (v,zs))=put (bQ L) x zs:=by
 induction L with
 |nil=>rfl
 |cons p r ih=>
  show bQ (put (p::r) x (v,zs))=put ((p.1,p.2.2)::bQ r) x zs
  rw[put,put]
  by_cases h:p.1=x
  ·rw[if_pos h,if_pos h];rfl
  ·rw[if_neg h,if_neg h, <-ih];rfl
theorem Oth.below{base b B:Nat}{w w':World}(h:Oth base b w w')(h1:B<=base)(h2:B<=b):Below B w w':=
 ⟨h.os,h.tape,h.output,h.size,fun g hg=>h.block g (by omega) (by omega)⟩
theorem bG{P:Program}{T:TypeId}{z:Value}{sz bytes:Nat}(h:(P.info? T).map (fun i=>(i.zero,i.size,i.bytes))=some (some z,sz,bytes)):∃i,P.info? T=some i/\i.zero=some z/\i.size=sz/\i.bytes=bytes:=by
 cases hi:P.info? T with
 |none=>rw[hi]at h;cases h
 |some i=>
  rw[hi]at h
  have h1:=Option.some.inj h
  injection h1 with h1 h2
  injection h2 with h2 h3
  exact⟨i,rfl,h1,h2,h3⟩
end
section
variable {P:Program} {ops:Array Oper} {rest:List Oper} {a:Act} {Q:Exit->Act->World->Prop}
theorem ai(x:Operand){t:TypeId}{y:Operand}{d:Option Tmp}{ty:TypeId}{ps:String}{af:Array Edge}{g:Option (Nat×Bool)}{w:World}(h:wpList P ops Q (⟨d, .store t x y,ty,ps,af,g⟩::rest) a w):wpList P ops Q (⟨d, .store t x y,ty,ps,af,g⟩::rest) a w:=h
theorem ae(x:Operand){t:TypeId}{d:Option Tmp}{ty:TypeId}{ps:String}{af:Array Edge}{g:Option (Nat×Bool)}{w:World}(h:wpList P ops Q (⟨d, .load t x,ty,ps,af,g⟩::rest) a w):wpList P ops Q (⟨d, .load t x,ty,ps,af,g⟩::rest) a w:=h
theorem at_build(x:Operand){t:TypeId}{i j:Nat}{y:Operand}{d:Option Tmp}{ty:TypeId}{ps:String}{af:Array Edge}{g:Option (Nat×Bool)}{w:World}(h:wpList P ops Q (⟨d, .build t #[(i,x),(j,y)],ty,ps,af,g⟩::rest) a w):wpList P ops Q (⟨d, .build t #[(i,x),(j,y)],ty,ps,af,g⟩::rest) a w:=h
theorem ge(x:Operand){c:Bool}{d:Option Tmp}{ty:TypeId}{ps:String}{af:Array Edge}{g:Option (Nat×Bool)}{w:World}(h:wpList P ops Q (⟨d, .next x c,ty,ps,af,g⟩::rest) a w):wpList P ops Q (⟨d, .next x c,ty,ps,af,g⟩::rest) a w:=h
theorem at_range(x:Operand){t:TypeId}{d:Option Tmp}{ty:TypeId}{ps:String}{af:Array Edge}{g:Option (Nat×Bool)}{w:World}(h:wpList P ops Q (⟨d, .range t x,ty,ps,af,g⟩::rest) a w):wpList P ops Q (⟨d, .range t x,ty,ps,af,g⟩::rest) a w:=h
theorem at_entry{d:Option Tmp}{t:TypeId}{m x:Operand}{ty:TypeId}{ps:String}{af:Array Edge}{g:Option (Nat×Bool)}{w:World}(h:wpList P ops Q (⟨d, .mapEntry t m x,ty,ps,af,g⟩::rest) a w):wpList P ops Q (⟨d, .mapEntry t m x,ty,ps,af,g⟩::rest) a w:=h
theorem fe{o:Oper}{w:World}(hg:o.guard=none)(x:Operand)(i:Nat)(hop:o.op= .extract x i)(vs:Array Value)(v:Value)(hx:a.eval x= .tuple vs)(hv:vs[i]? =some v)(hK:wpList P ops Q rest (a.put o.dst v) w):wpList P ops Q (o::rest) a w:=by
 refine wpList_plain hg fun K' hK'=> ?_
 unfold Oper.wp
 simp[execOp,hop,hx,Instr.extract,hv]
 exact hK' _ _ hK

variable {α γ:Type} {enc:α->Value} {ok:α->Prop} {ec:γ->List Value} {w:World} {base:Nat} {T t k s:TypeId} {sz b:Nat} {L:List (α×(Value×List γ))} [DecidableEq α]
theorem fx{o1 o2 o3 o4 o5:Oper}(K:Key P k enc ok)(ht:P.underlying t=some (.map k s))(hu:P.underlying s=some (.slice T))(i:TypeInfo)(z:Value)(bytes:Nat)(hi:P.info? T=some i)(hz:i.zero=some z)
  (hsize:i.size=sz) (hby:i.bytes=bytes) (hzs:z.cells.size=sz) (hsz:0<sz) (hzv:(zeroValue s).run P w= .ok (.slice none 0 0) w)
  (h:Groups w enc ok ec base T sz b L) (hbb:b<base) (x:α) (hx:ok x) (y:γ) (hyl:(ec y).length=sz) (hy1:∀u∈ec y,u.oneCell'=true) (m kx xs:Operand) (d1 d2 d3 d4:Tmp)
  (ad:Addr) (c:Nat) (hc:∀(j:Nat) u,(ec y)[j]? =some u->w.cell? (ad.add j)=some u) (hadb:ad.block≠b)
  (hlen:∀p∈L,(p.2.2.length+1)<=maxLen/\(p.2.2.length+1)*bytes<=140737488355328) (hb1:bytes<=140737488355328) (hbase:base<=w.heap.size)
  (g1:o1.guard=none) (p1:o1.op= .mapEntry t m kx) (e1:o1.dst=some d1)
  (g2:o2.guard=none) (p2:o2.op= .extract (.tmp d1) 0) (e2:o2.dst=some d2)
  (g3:o3.guard=none) (p3:o3.op= .call {callee:= .builtin .append,args:= #[.tmp d2,xs],argTypes:= #[s,s]}) (e3:o3.dst=some d3)
  (g4:o4.guard=none) (p4:o4.op= .extract (.tmp d1) 1) (e4:o4.dst=some d4)
  (g5:o5.guard=none) (p5:o5.op= .entryStore t m (.tmp d4) (.tmp d3)) (e5:o5.dst=none)
  (hm:a.eval m= .map (some b)) (hk:a.eval kx=enc x)
  (v1:∀u1,(a.put (some d1) u1).eval (.tmp d1)=u1)
  (v2:∀u1 u2,((a.put (some d1) u1).put (some d2) u2).eval (.tmp d2)=u2/\((a.put (some d1) u1).put (some d2) u2).eval xs= .slice (some ad) 1 c)
  (v3:∀u1 u2 u3,(((a.put (some d1) u1).put (some d2) u2).put (some d3) u3).eval (.tmp d1)=u1)
  (v4:∀u1 u2 u3 u4,((((a.put (some d1) u1).put (some d2) u2).put (some d3) u3).put (some d4) u4).eval m= .map (some b)/\((((a.put (some d1) u1).put (some d2) u2).put (some d3) u3).put (some d4) u4).eval (.tmp d4)=u4/\((((a.put (some d1) u1).put (some d2) u2).put (some d3) u3).put (some d4) u4).eval (.tmp d3)=u3)
  (hK:∀u1 u2 u3 u4 w',Groups w' enc ok ec base T sz b (put L x (u3,((get L x).map Prod.snd).getD []++ [y]))->Oth base b w w'->wpList P ops Q rest (((((a.put (some d1) u1).put (some d2) u2).put (some d3) u3).put (some d4) u4).put none undef) w'):
  wpList P ops Q (o1::o2::o3::o4::o5::rest) a w:=by
 obtain⟨v,zs,hv,hzs',hrow,hat⟩:=h.at x
 have hget:(get L x).getD (.slice none 0 0,[])=(v,zs):=by
  rcases hat with⟨h1,h2⟩|h1
  ·rw[h2,h1];rfl
  ·rw[h1];rfl
 have hzl:zs.length+1<=maxLen/\(zs.length+1)*bytes<=140737488355328:=by
  rcases hat with⟨h1,_⟩|h1
  ·injection h1 with _ h1;rw[h1];exact⟨by unfold maxLen;simp,by simpa using hb1⟩
  ·exact hlen _ (get_mem h1)
 refine wpList_entry (zv:=((.slice none 0 0:Value),([]:List γ))) g1 m kx p1 K h.map ht hzv x hx hm hk ?_
 intro w1 st hm1 hst hg1 hs1
 rw[hget,e1]
 rw[hget]at hm1
 refine fe g2 _ 0 p2 _ v (v1 _) rfl ?_
 rw[e2]
 have hb1':w1.heap.size=w.heap.size:=hs1
 have hblk:∀g,g<w.heap.size->g≠b->w1.heap[g]? =w.heap[g]? :=fun g hgl hgb=>hg1.block g hgl (fun e=>hgb (Option.some.inj e))
 have hrow1:w1.ownsRow base T sz v zs.length (zs.flatMap ec):=owns_keep hrow fun g hgo=>hblk g (owns_lt hrow hgo).2 (by have:=(owns_lt hrow hgo).1;omega)
 have hadl:∀j u,(ec y)[j]? =some u->w1.cell? (ad.add j)=some u:=fun j u hj=>by
  have h0:=hc j u hj
  have hl:=World.block_lt_of_cell? w _ h0
  have e0:(ad.add j).block=ad.block:=by unfold Addr.add;split<;>rfl
  rw[World.cell?_of_block (w:=w) (hblk _ hl (by rw[e0];exact hadb))]
  exact h0
 refine wpList_append_own_at w1 g3 _ xs s p3 base T i z sz bytes hu hi hz hsize hby hzs hsz v zs.length (zs.flatMap ec) (v2 _ _).1 hrow1 ad 1 c (ec y) (v2 _ _).2 (by rw[hyl,Nat.one_mul]) hadl hy1 hzl.1 hzl.2 (by omega) ?_
 intro v' w2 hown2 hg2 _ hat2
 rw[e3]
 refine fe g4 _ 1 p4 _ _ (v3 _ _ _) rfl ?_
 rw[e4]
 have hbv:(some b:Option Nat)≠v.ownBlock:=fun e=>by have:=(owns_lt hrow e.symm).1;omega
 have hm2:=hm1.keep (hg2.block b (by have:=h.map.lt;omega) hbv)
 have hst2:=hst.keep (hg2.block b (by have:=h.map.lt;omega) hbv)
 refine fT (β:=Value×List γ) g5 m _ _ p5 K hm2 x hx st hst2 (v',zs++ [y]) (v4 _ _ _ _).1 (v4 _ _ _ _).2.1 (v4 _ _ _ _).2.2 ?_
 intro w3 hm3 hg3 hs3
 rw[e5]
 rw[put_put]at hm3
 have hzz:((get L x).map Prod.snd).getD []=zs:=hzs'
 refine hK _ _ _ _ w3 ?_ ?_
 ·rw[hzz]
  refine h.store' (w1:=w2) hbb hat (fun g hg hgl hgv=> ?_) (by have:=hg2.size;omega) (by rw[List.length_append,List.flatMap_append];simpa using hown2) (hat2.imp id fun e=>⟨_,e,by omega⟩) hm3 hg3
  rw[hg2.block g (by omega) (fun e=>hgv e.symm)]
  exact hblk g hgl (by omega)
 ·refine⟨hg3.os.trans (hg2.os.trans hg1.os),hg3.tape.trans (hg2.tape.trans hg1.tape),hg3.output.trans (hg2.output.trans hg1.output),by have:=hg2.size;omega,fun g hg hgb=> ?_⟩
  rw[hg3.block g (by have:=hg2.size;omega) (fun e=>hgb (Option.some.inj e)),hg2.block g (by omega) (fun e=>by have:=(owns_lt hrow e.symm).1;omega)]
  exact hblk g (by omega) hgb
end
theorem fold_set':∀(cs:List Value) (z:Array Value) (k:Nat),z.size=k+cs.length->(List.foldl (fun(a:Array Value) (x:Value×Nat)=>a.setIfInBounds x.2 x.1) z (cs.zipIdx k)).toList=z.toList.take k++cs
 | [],z,k,h=>by
  have:z.toList.length<=k:=by simp at h;simp;omega
  simp[List.take_of_length_le this]
 |x::cs,z,k,h=>by
  rw[List.zipIdx_cons,List.foldl_cons]
  have hk:k<z.toList.length:=by simp at h⊢;omega
  rw[fold_set' cs (z.setIfInBounds k x) (k+1) (by simp at h⊢;omega)]
  rw[Array.toList_setIfInBounds,List.take_succ_eq_append_getElem (by simpa using hk),List.take_set_of_le (Nat.le_refl _),List.getElem_set_self,List.append_assoc]
  rfl
theorem fold_set(cs:List Value)(z:Array Value)(h:z.size=cs.length):List.foldl (fun(a:Array Value) (x:Value×Nat)=>a.setIfInBounds x.2 x.1) z cs.zipIdx=cs.toArray:=by
 apply Array.ext'
 rw[fold_set' cs z 0 (by omega)]
 simp
end Go.Mg

namespace Go.Hk
open Go Go.RowKit
theorem wpList_store_own{P:Program}{ops:Array Oper}{rest:List Oper}{o:Oper}{a:Act}{w:World}{Q:Exit->Act->World->Prop}(hgd:o.guard=none)(ty:TypeId)(x y:Operand)(ho:o.op= .store ty x y)
  (g:Nat) (hx:a.eval x= .pointer (some ⟨g,0,none⟩)) (new:List Value) (hy:a.eval y= .agg new.toArray) (old:List Value) (t:TypeId) (hr:w.heap[g]? =some (.cells old.toArray t (0,0)))
  (hi:(P.info? ty).map (·.size)=some new.length) (hl:old.length=new.length) (h1:∀v∈new,v.oneCell'=true)
  (hK:∀w',w'.heap[g]? =some (.cells new.toArray t (0,0))->w.grownBy w' (some g)->w'.heap.size=w.heap.size->wpList P ops Q rest (a.put o.dst undef) w'):wpList P ops Q (o::rest) a w:=by
 refine wpList_store_row hgd ty x y ho g new.toArray hx hy t old.toArray hr (by rw[hi];simp) (by simp[hl]) (all_oneCell_toArray h1) ?_
 refine hK _ (setRow_heap w g _ _ t _ hr) ⟨rfl,rfl,rfl,by simp[World.setRow],fun k hk hn=> ?_⟩ (by simp[World.setRow])
 have:k≠g:=by simpa using hn
 simp only[World.setRow,Array.getElem?_modify];rw[if_neg (Ne.symm this)]
theorem results_cell_row_tmp{P:Program}{fn:Func}{p u:Tmp}{ty:TypeId}{v:Value}(h:fn.results= #[.cell p ty, .tmp u])(tmps:Array Value)(w:World)(g:Nat)(t:TypeId)(cs:Array Value)(fr:Nat×Nat)(d:TypeDesc)
  (hp:tmps.getD p undef= .pointer (some ⟨g,0,none⟩)) (hg:w.heap[g]? =some (.cells cs t fr))
  (hu:P.underlying ty=some d) (hd:(match d with| .struct _| .array _ _=>true|_=>false)=true) (hi:(P.info? ty).map (·.size)=some cs.size) (hv:tmps.getD u undef=v):
  (results fn tmps).run P w= .ok (.tuple #[.agg cs,v]) w:=by
 have hp':tmps[p]?.getD undef= .pointer (some ⟨g,0,none⟩):=by simpa using hp
 have hv':tmps[u]?.getD undef=v:=by simpa using hv
 simp[results,h,hp',hv',asAddr,run_loadVar_row w g t ty cs fr d hg hu hd hi]
theorem results_cell_row{P:Program}{fn:Func}{p:Tmp}{ty:TypeId}(h:fn.results= #[.cell p ty])(tmps:Array Value)(w:World)(g:Nat)(t:TypeId)(cs:Array Value)(fr:Nat×Nat)(d:TypeDesc)
  (hp:tmps.getD p undef= .pointer (some ⟨g,0,none⟩)) (hg:w.heap[g]? =some (.cells cs t fr))
  (hu:P.underlying ty=some d) (hd:(match d with| .struct _| .array _ _=>true|_=>false)=true) (hi:(P.info? ty).map (·.size)=some cs.size):
  (results fn tmps).run P w= .ok (.agg cs) w:=by
 have hp':tmps[p]?.getD undef= .pointer (some ⟨g,0,none⟩):=by simpa using hp
 simp[results,h,hp',asAddr,run_loadVar_row w g t ty cs fr d hg hu hd hi]
end Go.Hk

namespace Go.Mg
open Go Go.RowKit Go.Mk
section
variable {P:Program} {ops:Array Oper} {rest:List Oper} {a:Act} {Q:Exit->Act->World->Prop}
variable {α γ:Type} {enc:α->Value} {ok:α->Prop} {ec:γ->List Value} {w:World} {base:Nat} {T t k s:TypeId} {sz b:Nat} {L:List (α×(Value×List γ))} [DecidableEq α]
theorem put_done(h:Groups w enc ok ec base T sz b L)(hbb:b<base)(hbase:base<=w.heap.size)(x:α)(y:γ){v v':Value}{zs:List γ}{w2 w3:World}(hv:((get L x).map Prod.fst).getD (.slice none 0 0)=v)(hz:((get L x).map Prod.snd).getD []=zs)
  (hown2:w2.ownsRow base T sz v' (zs.length+1) (zs.flatMap ec++ec y)) (hg2:w.grownBy w2 v.ownBlock) (hat2:v'.ownBlock=v.ownBlock\/v'.ownBlock=some w.heap.size)
  (hm3:MapIs w3 enc ok Prod.fst b (put L x (v',zs++ [y]))) (hg3:w2.grownBy w3 (some b)):
  Groups w3 enc ok ec base T sz b (put L x (v',zs++ [y]))/\Oth base b w w3/\∀g,g<w.heap.size->g≠b->(∀p∈L,p.2.1.ownBlock≠some g)->w3.heap[g]? =w.heap[g]? :=by
 obtain⟨v0,zs0,hv0,hzs',hrow,hat⟩:=h.at x
 have ev:v0=v:=hv0.symm.trans hv
 have ez:zs0=zs:=hzs'.symm.trans hz
 subst ev ez
 refine⟨h.store' (w1:=w2) hbb hat (fun g hg hgl hgv=> ?_) hg2.size (by rw[List.length_append,List.flatMap_append];simpa using hown2) (hat2.imp id fun e=>⟨_,e,Nat.le_refl _⟩) hm3 hg3,⟨hg3.os.trans hg2.os,hg3.tape.trans hg2.tape,hg3.output.trans hg2.output,by have:=hg2.size;have:=hg3.size;omega,fun g hg hgb=> ?_⟩,fun g hgl hgb hno=> ?_⟩
 ·exact hg2.block g hgl (fun e=>hgv e.symm)
 ·have:=hg2.size
  rw[hg3.block g (by omega) (fun e=>hgb (Option.some.inj e)),hg2.block g (by omega) (fun e=>by have:=(owns_lt hrow e.symm).1;omega)]
 ·have:=hg2.size
  rw[hg3.block g (by omega) (fun e=>hgb (Option.some.inj e))]
  refine hg2.block g hgl (fun e=> ?_)
  rcases hat with⟨h1,_⟩|h1
  ·injection h1 with h1 _;rw[h1]at e;cases e
  ·exact hno _ (get_mem h1) e.symm
end
end Go.Mg

namespace Go.Fre3
open Go Go.RowKit
open Go.Free (opRun opRun_wp bef gL fh frm cV br bT bU aI aS aZ dg aP OK bC aL getD_some bj aG aM bF aO left cD)
def cl:List Nat->Nat->Option Nat
 | [],_=>none
 |c::r,k=>if c=k then some 0 else(cl r k).map (· +1)
theorem cl_none:∀(Cs:List Nat) (k:Nat),cl Cs k=none->k∉Cs
 | [],_,_=>by simp
 |c::r,k,h=>by
  unfold cl at h
  split at h
  ·cases h
  ·rename_i hne
   have h2:cl r k=none:=by cases hc:cl r k with|none=>rfl|some x=>rw[hc]at h;cases h
   intro hm
   rcases List.mem_cons.1 hm with e|e
   ·exact hne e.symm
   ·exact cl_none r k h2 e
theorem cl_split:∀(Cs:List Nat) (k c:Nat),cl Cs k=some c->∃L1 L2,Cs=L1++k::L2/\L1.length=c
 | [],_,_,h=>by cases h
 |x::r,k,c,h=>by
  unfold cl at h
  split at h
  ·rename_i e
   cases h
   exact⟨[],r,by rw[e];rfl,rfl⟩
  ·cases hc:cl r k with
   |none=>rw[hc]at h;cases h
   |some y=>
    rw[hc]at h
    cases h
    obtain⟨L1,L2,h1,h2⟩:=cl_split r k y hc
    exact⟨x::L1,L2,by rw[h1];rfl,by simp[h2]⟩
def pw(b:Array Nat):List Nat->Bool
 | []=>true
 |c::r=>r.all (fun q=>bef b q c)&&pw b r
def gX(b:Array Nat)(Cs:List Nat)(n:Nat):Bool:=Cs.all (fun c=>decide (c<n))&&pw b Cs
theorem pw_split{b:Array Nat}:∀(L1 L2:List Nat) (k:Nat),pw b (L1++k::L2)=true->(∀x∈L1,bef b k x=true)/\(∀y∈L2,bef b y k=true)
 | [],L2,k,h=>by
  unfold pw at h
  rw[List.nil_append]at h
  simp only[Bool.and_eq_true,List.all_eq_true]at h
  exact⟨fun x hx=>by simp at hx,h.1⟩
 |x::L1,L2,k,h=>by
  rw[List.cons_append]at h
  unfold pw at h
  simp only[Bool.and_eq_true,List.all_eq_true]at h
  obtain⟨h1,h2⟩:=pw_split L1 L2 k h.2
  refine⟨fun y hy=> ?_,h2⟩
  rcases List.mem_cons.1 hy with e|e
  ·rw[e];exact h.1 k (by simp)
  ·exact h1 y e
def stg(Cs:List Nat)(listed:Array Bool):Nat:=Cs.countP (fun c=>listed.getD c false)
section
variable (P:Program) (ops:Array Oper) (b:Array Nat) (Cs:List Nat) (B:Nat->World->Prop)
def chain(fin:Act->Prop):List Oper->Nat->Act->Prop
 | [],_,a=>fin a
 |o::rest,k,a=>
  if Region.wanted o (yielded ops a.tmps)then
   match cl Cs k with
   |none=> ∃v,(∀s w',B s w'->(execOp a.eval o).run P w'= .ok (.value v) w')/\chain fin rest (k+1) (a.put o.dst v)
   |some c=> ∃x,(∀w',B c w'->opRun P o a.eval w' fun u w2=>B (c+1) w2/\u=x)/\chain fin rest (k+1) (a.put o.dst x)
  else cl Cs k=none/\chain fin rest (k+1) (a.put o.dst undef)
end
section
variable {P:Program} {ops:Array Oper} {b:Array Nat} {Cs:List Nat} {B:Nat->World->Prop} {a0:Act}
def StepT(P:Program)(ops:Array Oper)(Cs:List Nat)(B:Nat->World->Prop)(a0:Act)(n:Nat)(v:Nat->Value)(k:Nat):Prop:=
 (Region.wanted (ops.getD k default) (yielded ops (frm ops a0 v (fun i=>decide (i<k)) n).tmps)=true->
  (cl Cs k=none->∀s w',B s w'->(execOp (frm ops a0 v (fun i=>decide (i<k)) n).eval (ops.getD k default)).run P w'= .ok (.value (v k)) w')/\
  (∀c,cl Cs k=some c->∀w',B c w'->opRun P (ops.getD k default) (frm ops a0 v (fun i=>decide (i<k)) n).eval w' fun y w2=>B (c+1) w2/\y=v k))/\
 (Region.wanted (ops.getD k default) (yielded ops (frm ops a0 v (fun i=>decide (i<k)) n).tmps)=false->cl Cs k=none/\v k=undef)
theorem StepT_congr{n:Nat}{v v':Nat->Value}{k:Nat}(h:∀j,j<k+1->v j=v' j)(hs:StepT P ops Cs B a0 n v k):StepT P ops Cs B a0 n v' k:=by
 have e:frm ops a0 v (fun j=>decide (j<k)) n=frm ops a0 v' (fun j=>decide (j<k)) n:=aL _ _ _ _ (fun j _ hs=>h j (by simp at hs;omega))
 have ek:=h k (by omega)
 unfold StepT at*
 rw[<-e, <-ek]
 exact hs
theorem chain_out{n:Nat}{fin:Act->Prop}(hn:n<=ops.size):
  ∀(l:List Oper) (k:Nat) (v0:Nat->Value),k+l.length=n->(∀j,j<l.length->l[j]? =ops[k+j]?)->
   (∀j,j<k->StepT P ops Cs B a0 n v0 j)->chain P ops Cs B fin l k (frm ops a0 v0 (fun i=>decide (i<k)) n)->
   ∃v,(∀j,j<n->StepT P ops Cs B a0 n v j)/\fin (frm ops a0 v (fun i=>decide (i<n)) n)
 | [],k,v0,hk,_,ht,hc=>by
  have:k=n:=by simpa using hk
  subst this
  exact⟨v0,ht,hc⟩
 |o::l,k,v0,hk,hl,ht,hc=>by
  simp only[List.length_cons]at hk
  have ho:ops.getD k default=o:=by
   have:=hl 0 (by simp)
   simp only[List.getElem?_cons_zero,Nat.add_zero]at this
   simp[Array.getD_eq_getD_getElem?, <-this]
  have hl':∀j,j<l.length->l[j]? =ops[k+1+j]? :=fun j hj=>by
   have:=hl (j+1) (by simp;omega)
   simpa[Nat.add_assoc,Nat.add_comm 1 j]using this
  have go:∀x:Value,(StepT P ops Cs B a0 n (fun j=>if j=k then x else v0 j) k)->
    chain P ops Cs B fin l (k+1) ((frm ops a0 v0 (fun i=>decide (i<k)) n).put o.dst x)->
    ∃v,(∀j,j<n->StepT P ops Cs B a0 n v j)/\fin (frm ops a0 v (fun i=>decide (i<n)) n):=by
   intro x hx hcx
   refine chain_out hn l (k+1) (fun j=>if j=k then x else v0 j) (by omega) hl' ?_ ?_
   ·intro j hj
    by_cases e:j=k
    ·subst e;exact hx
    ·exact StepT_congr (fun i hi=>by simp[show i≠k by omega]) (ht j (by omega))
   ·have e:frm ops a0 (fun j=>if j=k then x else v0 j) (fun i=>decide (i<k+1)) n=(frm ops a0 v0 (fun i=>decide (i<k)) n).put o.dst x:=by
     rw[bC _ (k+1) n (by omega),bC _ k n (by omega)]
     simp only[frm,if_true]
     rw[ho,aL (fun j=>if j=k then x else v0 j) v0 _ k (fun j hj _=>by simp[show j≠k by omega])]
    rw[e];exact hcx
  have ek:∀x:Value,frm ops a0 (fun j=>if j=k then x else v0 j) (fun i=>decide (i<k)) n=frm ops a0 v0 (fun i=>decide (i<k)) n:=fun x=>
   aL _ _ _ _ (fun j _ hs=>by
     have:j<k:=by simpa using hs
     simp[show j≠k by omega])
  unfold chain at hc
  by_cases hw:Region.wanted o (yielded ops (frm ops a0 v0 (fun i=>decide (i<k)) n).tmps)=true
  ·rw[if_pos hw]at hc
   cases hf:cl Cs k with
   |none=>
    rw[hf]at hc
    obtain⟨x,h1,h2⟩:=hc
    refine go x ?_ h2
    unfold StepT
    rw[ek x,ho]
    refine⟨fun _=>⟨fun _ s w' hb=> ?_,fun c hy=>(by rw[hf]at hy;cases hy)⟩,fun hw'=>absurd hw (by rw[hw'];simp)⟩
    simp only[if_true]
    exact h1 s w' hb
   |some c=>
    rw[hf]at hc
    obtain⟨x,h1,h2⟩:=hc
    refine go x ?_ h2
    unfold StepT
    rw[ek x,ho]
    refine⟨fun _=>⟨fun hy=>(by rw[hf]at hy;cases hy),fun c' hy w' hb=> ?_⟩,fun hw'=>absurd hw (by rw[hw'];simp)⟩
    rw[hf]at hy
    cases hy
    simp only[if_true]
    exact h1 w' hb
  ·rw[if_neg hw]at hc
   refine go undef ?_ hc.2
   unfold StepT
   rw[ek,ho]
   exact⟨fun hw'=>absurd hw' hw,fun _=>⟨hc.1,by simp⟩⟩
structure J (P:Program) (ops:Array Oper) (Cs:List Nat) (B:Nat->World->Prop) (a0:Act) (n:Nat) (v:Nat->Value) (listed:Array Bool) (a:Act) (w:World):Prop where
 inv:HeadInv .any ops n listed
 fr:a=frm ops a0 v (fun j=>listed.getD j false) n
 bw:B (stg Cs listed) w
theorem fb{p:Nat->Bool}:∀L:List Nat,(∀x∈L,p x=true)->L.countP p=L.length
 | [],_=>rfl
 |x::r,h=>by
  rw[List.countP_cons_of_pos (h x (by simp)),fb r (fun y hy=>h y (by simp[hy]))];rfl
theorem gV{p:Nat->Bool}(L:List Nat)(h:∀x∈L,p x=false):L.countP p=0:=List.countP_eq_zero.2 (fun x hx=>by rw[h x hx];decide)
theorem J_step{n:Nat}{v:Nat->Value}{listed:Array Bool}{a:Act}{w:World}{Q:Exit->Act->World->Prop}(ok:OK ops n b)(hcs:gX b Cs n=true)
  (tr:∀j,j<n->StepT P ops Cs B a0 n v j)
  (hJ:J P ops Cs B a0 n v listed a w) {i:Nat} (hin:i<n) (hr:i∈Region.ready .any ops listed):
  wpOp P ops Q i (fun a' w'=>J P ops Cs B a0 n v (listed.setIfInBounds i true) a' w') a w:=by
 obtain⟨hul,o,ho,_⟩:=mem_ready.1 hr
 have hi:i<ops.size:=(Array.getElem?_eq_some_iff.1 ho).1
 have hul':=getD_both hul
 have hod:=getD_some ho
 have inv':=hJ.inv.set hr hin
 have hdist:∀j,j<n->j≠i->(ops.getD j default).dst=none\/(ops.getD j default).dst≠(ops.getD i default).dst:=by
  intro j hj hne
  rcases Nat.lt_or_gt_of_ne hne with h|h
  ·exact ok.dist j i h hin
  ·rcases ok.dist i j h hj with h'|h'
   ·by_cases e:(ops.getD j default).dst=none
    ·exact .inl e
    ·right;rw[h'];exact e
   ·right;exact Ne.symm h'
 have hself:(listed.setIfInBounds i true).getD i false=true:=by
  have:i<listed.size:=by rw[hJ.inv.size];exact hi
  simp[this]
 have hlset:(fun j=>(listed.setIfInBounds i true).getD j false)=fun j=>if j=i then true else listed.getD j false:=by
  funext j
  by_cases e:j=i
  ·subst e;rw[hself];simp
  ·rw[if_neg e,getD_set_ne false (Ne.symm e)]
 have hal:=aO (ops:=ops) (o:=o) (a:=a) (a':=frm ops a0 v (fun j=>decide (j<i)) n)
  (Region.noSelect_spec ok.sel i _ · · ho) (fun t ht=>by rw[hJ.fr];exact bF ok hJ.inv hin hr v t (by rw[hod];exact ht))
 have st:=tr i hin
 unfold StepT at st
 rw[hod]at st
 have hfr:(frm ops a0 v (fun j=>listed.getD j false) n).put o.dst (v i)=frm ops a0 v (fun j=>(listed.setIfInBounds i true).getD j false) n:=by
  rw[hlset,aP v _ i n hin hul' hdist v (fun _ _=>rfl),hod]
 have same:cl Cs i=none->stg Cs (listed.setIfInBounds i true)=stg Cs listed:=fun h=>by
  have hni:=cl_none Cs i h
  unfold stg
  refine List.countP_congr (fun c hc=> ?_)
  have hne:i≠c:=fun e=>hni (by rw[e];exact hc)
  rw[getD_set_ne false hne]
 unfold wpOp
 simp only[ho]
 rw[hal.2]
 cases hw:Region.wanted o (yielded ops (frm ops a0 v (fun j=>decide (j<i)) n).tmps)with
 |false=>
  simp only[Bool.false_eq_true,if_false]
  obtain⟨h1,h2⟩:=st.2 hw
  refine⟨inv', ?_,by rw[same h1];exact hJ.bw⟩
  rw[hJ.fr, <-h2];exact hfr
 |true=>
  simp only[if_true]
  left
  obtain⟨s1,s2⟩:=st.1 hw
  cases hf:cl Cs i with
  |none=>
   have e:=s1 hf _ w hJ.bw
   rw[<-hal.1]at e
   unfold Oper.wp
   rw[e]
   simp only[Oper.upon]
   exact⟨inv',by rw[hJ.fr];exact hfr,by rw[same hf];exact hJ.bw⟩
  |some c=>
   obtain⟨L1,L2,hC,hL⟩:=cl_split Cs i c hf
   unfold gX at hcs
   simp only[Bool.and_eq_true,List.all_eq_true,decide_eq_true_eq]at hcs
   have hlt:=hcs.1
   have hpw:=hcs.2
   rw[hC]at hpw hlt
   obtain⟨p1,p2⟩:=pw_split L1 L2 i hpw
   have l1:∀x∈L1,listed.getD x false=true:=fun x hx=>aM ok hJ.inv hr (by have:=hlt x (by simp[hx]);have:=ok.le;omega) (p1 x hx)
   have l2:∀y∈L2,listed.getD y false=false:=fun y hy=>by
    cases hly:listed.getD y false with
    |false=>rfl
    |true=>
     have hyn:=hlt y (by simp[hy])
     have:=aG ok hJ.inv y (by have:=ok.le;omega) hly i (by have:=ok.le;omega) (p2 y hy)
     rw[hul']at this;cases this
   have hs1:stg Cs listed=c:=by
    unfold stg
    rw[hC,List.countP_append,List.countP_cons_of_neg (by rw[hul'];decide),fb L1 l1,gV L2 l2,hL];rfl
   have hne:∀y∈L2,i≠y:=fun y hy e=>by
    have h1:=p2 y hy
    have hyn:=hlt y (by simp[hy])
    have:=ok.lt y i (by have:=ok.le;omega) (by have:=ok.le;omega) h1
    omega
   have hne1:∀x∈L1,i≠x:=fun x hx e=>by have:=l1 x hx;rw[<-e,hul']at this;cases this
   have hs2:stg Cs (listed.setIfInBounds i true)=c+1:=by
    unfold stg
    rw[hC,List.countP_append,List.countP_cons_of_pos (by exact hself),fb L1 (fun x hx=>by rw[getD_set_ne false (hne1 x hx)];exact l1 x hx),gV L2 (fun y hy=>by rw[getD_set_ne false (hne y hy)];exact l2 y hy),hL]
   have hrun:=s2 c hf w (by rw[<-hs1];exact hJ.bw)
   have hrun':opRun P o a.eval w fun y w2=>B (c+1) w2/\y=v i:=by
    unfold opRun at*;rw[hal.1];exact hrun
   refine opRun_wp hrun' ?_
   rintro y w2 ⟨hg,rfl⟩
   exact⟨inv',by rw[hJ.fr];exact hfr,by rw[hs2];exact hg⟩
theorem region_staged{n:Nat}{v:Nat->Value}{Q:Exit->Act->World->Prop}(ok:OK ops n b)(hcs:gX b Cs n=true)(tr:∀j,j<n->StepT P ops Cs B a0 n v j)
  (hfin:∀w,B Cs.length w->wpList P ops Q (ops.toList.drop n) (frm ops a0 v (fun i=>decide (i<n)) n) w):
  ∀(m:Nat) (listed:Array Bool) (a:Act) (w:World),left listed n=m->J P ops Cs B a0 n v listed a w->wpAny P .any ops Q (m+(ops.size-n)) listed a w:=by
 intro m
 induction m with
 |zero=>
  rintro listed a w hm hJ
  have hl:∀j,j<n->listed.getD j false=true:=by
   intro j hj
   have:=List.countP_eq_zero.1 hm j (by simpa using hj)
   simpa using this
  have e:listed=Array.replicate n true++Array.replicate (ops.size-n) false:=by
   apply Array.ext
   ·rw[hJ.inv.size];simp;have:=ok.le;omega
   ·intro i h1 h2
    by_cases hi:i<n
    ·have:=hl i hi
     simp[h1]at this
     rw[this,Array.getElem_append_left (by simpa using hi)];simp
    ·have:=hJ.inv.tail i (by omega) (by rw[<-hJ.inv.size];exact h1)
     simp[h1]at this
     rw[this,Array.getElem_append_right (by simp;omega)];simp
  have ef:a=frm ops a0 v (fun i=>decide (i<n)) n:=by
   rw[hJ.fr]
   exact dg (by rw[aI,aI]) (by rw[aS,aS]) (fun t=>aZ _ _ _ _ t n (fun j hj _=>⟨by rw[hl j hj];simp[hj],fun _=>rfl⟩))
  have hst:stg Cs listed=Cs.length:=by
   unfold stg
   refine fb Cs (fun x hx=>hl x ?_)
   unfold gX at hcs
   simp only[Bool.and_eq_true,List.all_eq_true,decide_eq_true_eq]at hcs
   exact hcs.1 x hx
  have hw:=hfin w (by rw[<-hst];exact hJ.bw)
  rw[<-ef]at hw
  have hlen:(ops.toList.drop n).length=ops.size-n:=by simp
  have:=wpAny_of_seq (md:= .any) (Q':=Q) (ops.toList.drop n) n listed a w (fun j=>by simp[List.getElem?_drop]) (by rw[hlen,e];exact ok.seq) hw
  rw[hlen]at this
  rw[Nat.zero_add];exact this
 |succ m ih=>
  rintro listed a w hm hJ
  rw[show m+1+(ops.size-n)=(m+(ops.size-n))+1 by omega]
  refine⟨fun hnil=> ?_,fun i hi=> ?_⟩
  ·exfalso
   have hex:∃k,k<n/\listed.getD k false=false/\∀j,j<k->listed.getD j false=true:=by
    have:∀N,N<=n->(∀j,j<N->listed.getD j false=true)\/∃k,k<n/\listed.getD k false=false/\∀j,j<k->listed.getD j false=true:=by
     intro N
     induction N with
     |zero=>intro _;left;intro j hj;omega
     |succ N ihN=>
      intro hN
      rcases ihN (by omega)with h|h
      ·cases hl:listed.getD N false with
       |false=>right;exact⟨N,by omega,hl,h⟩
       |true=>
         left;intro j hj;by_cases e:j=N
         ·subst e;exact hl
         ·exact h j (by omega)
      ·exact .inr h
    rcases this n (Nat.le_refl _)with h|h
    ·have:left listed n=0:=List.countP_eq_zero.2 (fun j hj=>by have:=h j (by simpa using hj);simp at this⊢;exact this)
     omega
    ·exact h
   obtain⟨k,hk,hkl,hlow⟩:=hex
   have hks:k<ops.size:=by have:=ok.le;omega
   have:k∈Region.ready .any ops listed:=mem_ready.2 ⟨getD_in (by rw[hJ.inv.size];exact hks) hkl,_,bj hks,fun e he hb=>hlow e.on (ok.edge k hks e he hb).1⟩
   rw[hnil]at this;cases this
  ·have hin:i<n:=by
    rcases Nat.lt_or_ge i n with h|h
    ·exact h
    ·exfalso
     obtain⟨_,o,ho,_⟩:=mem_ready.1 hi
     have his:i<ops.size:=(Array.getElem?_eq_some_iff.1 ho).1
     have:left listed n=0:=List.countP_eq_zero.2 (fun j hj=>by
      have hjn:j<n:=by simpa using hj
      have:=aM ok hJ.inv hi (by omega) (ok.tail i j h his hjn)
      simp at this⊢;exact this)
     omega
   obtain⟨hul,o,ho,_⟩:=mem_ready.1 hi
   have his:i<ops.size:=(Array.getElem?_eq_some_iff.1 ho).1
   have hls:i<listed.size:=by rw[hJ.inv.size];exact his
   have hc:left (listed.setIfInBounds i true) n=m:=by have:=cD (n:=n) hin hls (getD_both hul);omega
   exact wpOp_mono (fun a' w' h=>ih _ a' w' hc h) (J_step ok hcs tr hJ hin hi)
theorem wp_region_staged{id:Nat}{Q:Exit->Act->World->Prop}{a:Act}{w:World}{l:List Oper}(n:Nat)(Cs:List Nat)(B:Nat->World->Prop)
  (hm:P.follows .mixedOrders=true) (hok:fh l.toArray n=true) (hcs:gX (Region.before l.toArray) Cs n=true) (hB0:B 0 w.drew)
  (h:chain P l.toArray Cs B (fun a'=> ∀w',B Cs.length w'->wpList P l.toArray Q (l.drop n) a' w') (l.take n) 0 a):
  (Code.region id l.toArray true).wp P Q a w:=by
 have ok:=OK.of hok
 have hle:n<=l.length:=by simpa using ok.le
 have e0:frm l.toArray a (fun _=>undef) (fun i=>decide (i<0)) n=a:=by
  rw[bC _ 0 n (by omega)];rfl
 obtain⟨v,tr,hfin⟩:=chain_out (P:=P) (ops:=l.toArray) (Cs:=Cs) (B:=B) (a0:=a) ok.le (l.take n) 0 (fun _=>undef) (by simp;omega) (fun j hj=>by
   have:j<n:=by simp at hj;omega
   simp[this]) (fun j hj=>by omega) (by rw[e0];exact h)
 refine wp_region_any hm ?_
 have inv0:HeadInv .any l.toArray n (Array.replicate l.toArray.size false):=
  ⟨by simp,fun j oj _ hl=>(by rw[getD_replicate_false]at hl;cases hl),fun t _ ht=>getD_in (by simpa using ht) (getD_replicate_false _ _)⟩
 have hleft:left (Array.replicate l.toArray.size false) n=n:=by
  unfold left
  have:(List.range n).countP (fun j=> !(Array.replicate l.toArray.size false).getD j false)=(List.range n).length:=List.countP_eq_length.2 (fun j _=>by rw[getD_replicate_false];rfl)
  rw[this];simp
 have J0:J P l.toArray Cs B a n v (Array.replicate l.toArray.size false) a w.drew:=by
  refine⟨inv0, ?_, ?_⟩
  ·have:(fun j=>(Array.replicate l.toArray.size false).getD j false)=fun i=>decide (i<0):=by funext j;rw[getD_replicate_false];simp
   rw[this,bC _ 0 n (by omega)];rfl
  ·have:stg Cs (Array.replicate l.toArray.size false)=0:=gV Cs (fun x _=>getD_replicate_false _ _)
   rw[this];exact hB0
 have:=region_staged (Q:=Q) ok hcs tr hfin n _ a w.drew hleft J0
 rw[show n+(l.toArray.size-n)=l.toArray.size by simp;omega]at this
 exact this
variable {fin:Act->Prop} {o:Oper} {rest:List Oper} {k:Nat} {a:Act}
theorem chain_still(hw:Region.wanted o (yielded ops a.tmps)=true)(hf:cl Cs k=none){v:Value}(h1:∀s w',B s w'->(execOp a.eval o).run P w'= .ok (.value v) w')
  (h2:chain P ops Cs B fin rest (k+1) (a.put o.dst v)):chain P ops Cs B fin (o::rest) k a:=by
 unfold chain
 rw[if_pos hw,hf]
 exact⟨v,h1,h2⟩
theorem chain_call(hw:Region.wanted o (yielded ops a.tmps)=true){c:Nat}(hf:cl Cs k=some c){x:Value}(h1:∀w',B c w'->opRun P o a.eval w' fun u w2=>B (c+1) w2/\u=x)
  (h2:chain P ops Cs B fin rest (k+1) (a.put o.dst x)):chain P ops Cs B fin (o::rest) k a:=by
 unfold chain
 rw[if_pos hw,hf]
 exact⟨x,h1,h2⟩
theorem chain_nil(h2:fin a):chain P ops Cs B fin [] k a:=h2
end
end Go.Fre3

namespace Go.Cln
open Go Go.Shelf Go.RowKit Go.Lib Go.Opn Go.Proofs
variable {P:Program} {ρ:Ren}
set_option maxHeartbeats 1000000 in
theorem clone_zero(L:SlLaysE0.n41 P ρ)(i0:TypeInfo)(z:Value)(size bytes:Nat)(hi:P.info? (ρ.t 23)=some i0)(hz0:i0.zero=some z)(hz1:i0.size=size)(hz2:i0.bytes=bytes)(hzs:z.cells.size=size)(hsz:0<size)
  (z23:∀w,(Go.sizeOf (ρ.t 23)).run P w= .ok size w) (a:Addr) (c:Nat) (w:World):
  Calls P (ρ.f 41) #[.slice (some a) 0 c] w fun e w'=> ∃v',e= .returned v'/\w'.ownsRow w.heap.size (ρ.t 23) size v' 0 []/\Below w.heap.size w w':=by
 have mixed:=L.mixed;have t4:=L.t4;have a4:=L.a4;have z4:=L.z4;have v4:=L.v4;have t22:=L.t22;have a22:=L.a22;have z22:=L.z22;have v22:=L.v22
 have q22:∀(w:World) (a:Option Addr) (n c n' c':Nat),(binOp .eql (ρ.t 22) (.slice a n c) (.slice none n' c')).run P w= .ok (.bool a.isNone) w:=fun w a n c n' c'=>Lib.run_eql_slice_nil w _ _ a n c n' c' L.t22
 have u22:∀w,Sem.run P (underlying (ρ.t 22)) w= .ok (TypeDesc.slice (ρ.t 23)) w:=run_underlying t22
 obtain⟨_,_,FG⟩:=L.f41
 go_enter FG,SlBodyN.n41_ntmps ρ
 go_wp2_with (at_builtin;refine wpList_append_own _ rfl _ _ (ρ.t 22) rfl w.heap.size (ρ.t 23) i0 z size bytes t22 hi hz0 hz1 hz2 hzs hsz _ _ _ rfl (World.ownsRow_made w #[] 0 (Nat.le_refl _) (Nat.zero_le _) (by simp)) a 0 c [] rfl ?qc1 ?qc2 ?qc3 ?qc4 ?qc5 ?qc6 ?_)
 case qc1=>simp
 case qc2=>intro j u hj;simp at hj
 case qc3=>intro u hu;cases hu
 case qc4=>exact Nat.zero_le _
 case qc5=>simp
 case qc6=>simp
 intro v' w1 hown hgrow _
 go_wp2
 go_ret
 exact⟨v',rfl,by simpa using hown,((Below.refl _ w).alloc (Nat.le_refl _) _).grown hgrow (by simp) (by intro k hk;simp[Value.ownBlock]at hk;omega)⟩
theorem clone_any(L:SlLaysE0.n41 P ρ){α:Type}{ec:α->List Value}(i0:TypeInfo)(z:Value)(size bytes:Nat)(hi:P.info? (ρ.t 23)=some i0)(hz0:i0.zero=some z)(hz1:i0.size=size)(hz2:i0.bytes=bytes)(hzs:z.cells.size=size)(hsz:0<size)
  (z23:∀w,(Go.sizeOf (ρ.t 23)).run P w= .ok size w) (hec:∀x,(ec x).length=size) (h1:∀x,∀v∈ec x,v.oneCell'=true) (A:Option Addr) (c:Nat) (l:List α) (w:World) (hl:SL w size ec A l) (hn:l.length<=maxLen) (hbig:l.length*bytes<=140737488355328):
  Calls P (ρ.f 41) #[.slice A l.length c] w fun e w'=> ∃A' c',e= .returned (.slice A' l.length c')/\w'.ownsRow w.heap.size (ρ.t 23) size (.slice A' l.length c') l.length (l.flatMap ec)/\Below w.heap.size w w':=by
 have form:∀ {w':World} {v:Value} {n:Nat} {xs:List Value},w'.ownsRow w.heap.size (ρ.t 23) size v n xs->∃A c,v= .slice A n c:=fun h=>by
  rcases h.2 with⟨rfl,rfl⟩|⟨g,cap,cur,rfl,_⟩
  ·exact⟨_,_,rfl⟩
  ·exact⟨_,_,rfl⟩
 cases A with
 |none=>
  have hl0:l= []:=by
   cases l with
   |nil=>rfl
   |cons x r=>obtain⟨_,_,h1,_⟩:=hl.cells (by simp);cases h1
  subst hl0
  refine(AnyE.slices_Clone_nil L 0 c w).mono ?_
  rintro e w' ⟨rfl,rfl⟩
  exact⟨none,0,rfl,World.ownsRow_nil _ _ _ _,Below.refl _ _⟩
 |some a=>
  cases l with
  |nil=>
   refine(clone_zero L i0 z size bytes hi hz0 hz1 hz2 hzs hsz z23 a c w).mono ?_
   rintro e w' ⟨v',rfl,ho,hb⟩
   obtain⟨A,c,rfl⟩:=form ho
   exact⟨A,c,rfl,ho,hb⟩
  |cons x r=>
   obtain⟨b,off,e1,_⟩:=hl.cells (by simp)
   cases e1
   refine(AnyE.slices_Clone L i0 z size bytes hi hz0 hz1 hz2 hzs hsz z23 b off (x::r).length c ((x::r).flatMap ec) w (Apl.flat_len hec _) hn hbig (fun j u hj=> ?_) (fun u hu=> ?_)).mono ?_
   ·have:=Apl.sl_flat hec hl j u hj
    rwa[Addr.add_lit]at this
   ·obtain⟨y,_,hy⟩:=List.mem_flatMap.1 hu
    exact h1 y u hy
   ·rintro e w' ⟨v',rfl,ho,_,hb⟩
    obtain⟨A,c,rfl⟩:=form ho
    exact⟨A,c,rfl,ho,hb⟩
end Go.Cln
