/- From a walk to a row: a law that answers true and changes nothing that was there leaves its arguments as they read. No condition. -/
import Derived.ProofKit
import Derived.Below
import Derived.Carry
import Derived.ChangeSame
import Derived.OpenShut
set_option linter.all false
namespace Go.PostB
open Go Go.RowKit Go.WideShapes Go.ChangeShapes Go.ChangeAt
variable {H:Type} {enc:TypeId×Value->H} {P:Program}

theorem fD(hl:laidOutB P=true){W W':World}(hb:Below W.heap.size W W'):∀ {ts:List TypeId} {vs:List Value} {ds:List (DataW H)} {p:List MemPlace},
  (∀t∈ts,P.readableRec t=true/\t<P.types.size)->DataW.TrodAll enc P W 0 (fun _=>true) true ts vs ds p->(∀x∈p,x.block<W.heap.size)->
  DataW.TrodAll enc P W' 0 (fun b=>decide (b<W.heap.size)) true ts vs ds p
 | [],vs,ds,p,_,h,_=>by
  obtain⟨rfl,rfl,rfl⟩:=trodAll_nil h
  exact trodAll_mk0
 |t::ts,vs,ds,p,hts,h,hlt=>by
  obtain⟨v0,vs0,d0,ds0,p0,q0,rfl,rfl,rfl,h0,r0⟩:=trodAll_cons h
  have ht:=hts t (by simp)
  exact trodAll_cons_mk (Below.trod hl ht.1 ht.2 h0 hb (fun x hx=>hlt x (by simp[hx]))) (fD hl hb (fun t ht=>hts t (by simp[ht])) r0 (fun x hx=>hlt x (by simp[hx])))

theorem post_true{f:Func}{s:ChangeSpec}{W W':World}{args:Array Value}{ds gs:List (DataW H)}{before:List MemPlace}{tb:TypeId}(hl:laidOutB P=true)
  (hts:f.params.toList.all (fun t=>P.readableRec t&&decide (t<P.types.size))=true) (hr:f.resultTypes= #[tb]) (htb:P.underlying tb=some .bool)
  (hW:DataW.Whole enc P f.params.toList s.vars false W args.toList ds gs before) (hv:s.vars= [])
  (hres:(s.fn H (ds++gs)).results= [.lit (.bool true)]) (hargs:(s.fn H (ds++gs)).args=ds) (hvars:(s.fn H (ds++gs)).vars= []) (hb:Below W.heap.size W W'):
  s.post enc P f false true false false W args (.bool true) W':=by
 have hlt:∀p∈before,p.block<W.heap.size:=fun p hp=>hW.lt p hp
 have hW0:=hW
 obtain⟨p,q,hA,hV,rfl,_,_⟩:=hW
 refine⟨ds,gs,p++q,[],p,[],hW0, ?_, ?_, ?_,hb.frame _,fun h=>by cases h⟩
 ·rw[hres,hr]
  exact trodAll_cons_mk (shut_bool htb _) trodAll_mk0
 ·rw[hargs]
  refine fD hl hb (fun t ht=> ?_) hA (fun x hx=>hlt x (by simp[hx]))
  have:=List.all_eq_true.1 hts t ht
  simpa using this
 ·rw[hvars,hv];exact rfl
end Go.PostB
