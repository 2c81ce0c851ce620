/- Law 47: the keys of secrets. Condition: the list of secrets is no longer than a process's memory. -/
import Derived.Test.YtkmbmfengcdmoaaGreatDoorZBK
set_option maxRecDepth 100000
set_option linter.all false
namespace Go.Proofs.YtkmbmfengcdmoaaGreatDoor
open Go.RowKit Go.ay Go.Jn Go.Dk Go.Ho Go.Opn Go.Maps Go.WideMaps Go.Apl Go.Mg Go.Rf Go.Lib

def rf(l:List Int):Bool:=l.all λx=>decide (fT x)
def GW(W:World)(l:List Int)(e:Ending)(w':World):Prop:=
 Below W.heap.size W w'/\((rf l=false/\e= .returned (.tuple #[.slice none 0 0, .bool false]))\/(rf l=true/\∃v,e= .returned (.tuple #[v, .bool true])/\OI W v (l.map cQ) w'))
set_option maxHeartbeats 2000000 in
theorem IX(A:Option Addr)(c:Nat)(l:List Int)(W:World)(hl:SL W 1 Cs.encI A l)(hn:l.length*8<=140737488355328):Calls Tryz.prog 9 #[.slice A l.length c] W (GW W l):=by
 obtain⟨R,eR⟩:=x_ (GW W l)
 rw[<-eR];have FN:Hid (∀w',rf l=false->Below W.heap.size W w'->R (.returned (.tuple #[.slice none 0 0, .bool false])) w'):=h_ λw' h hb=>by rw[eR];exact⟨hb, .inl ⟨h,rfl⟩⟩
 have FY:Hid (∀w' v,rf l=true->OI W v (l.map cQ) w'->R (.returned (.tuple #[v, .bool true])) w'):=h_ λw' v h ho=>by rw[eR];exact⟨ho.below, .inr ⟨h,v,rfl,ho⟩⟩
 have HL:=h_ hl;have HN:=h_ hn;clear eR hl hn;go_enter Tryz.func9,Tryz.ntmps9;go_wp2_with fail
 go_loopw [4,5] (λu v wr=> ∃k:Nat,v= .int .i64 (k:Int)/\k<=l.length/\OI W u ((l.take k).map cQ) wr/\Hid (rf (l.take k)=true)) (λ_ v _=>(l.length:Int).toNat- (RowKit.intOf v).toNat)
 case atStart=>exact⟨0,rfl,gu _,OI.nil W,h_ rfl⟩
 case round=>
  obtain⟨k,rfl,hk,hoi,HS⟩:=hrel;have hn8:=HN.out;rcases pC hk with hkl|hkl
  ·have hki:(k:Int)<(l.length:Int):=by omega
   obtain⟨x,ex⟩:∃x,l[k]? =some x:=⟨_,eH hkl⟩
   have hsl:=HL.out.below hoi.below (aL _);obtain⟨ba,oa,ea⟩:=cG hsl (by intro e;rw[e]at hkl;simp at hkl);subst ea;have q1:=fi hsl ex;have HOI:=h_ hoi;have HKL:=h_ hkl;have EX:=h_ ex;clear hoi hkl ex hsl hk;go_wp2_with fail;refine(rQ x wr).mono ?_;rintro e w' ⟨rfl,rfl⟩;by_cases hs:fT x
   ·have e1:lA x=0:=by unfold lA;rw[if_pos hs]
    have G:Hid (rf (l.take (k+1))=true):=h_ (by
     have h:=HS.out;unfold rf at h⊢;rw[zX,EX.out,RZ,h];simp[hs])
    have HF:Hid ((((l.take k).map cQ).length+1)*8<=140737488355328):=h_ (by rw[rm,jQ];have:=HKL.out;omega);have GE:Hid ((l.take (k+1)).map cQ=(l.take k).map cQ++ [cQ x]):=h_ (by rw[zX,EX.out,uE];rfl);rw[e1];obtain⟨px,epx⟩:=x_ (cQ x)
    rw[<-epx]at GE⊢;have hbs:=Ml px wr;clear hs e1 epx q1;go_wp2_with (refine v8 (.tmp 24) (.tmp 26) ?_;refine KX HOI.out HF.out (.tmp 24) (.tmp 26) _ _ _ _ _ rfl rfl rfl rfl ?_;intro u9 w9 H9;simp only[Pt])
    go_roundw
    case rel=>exact⟨k+1,rfl,HKL.out,by rw[GE.out];exact H9.out.1,G⟩
    case measure=>have:=HKL.out;simp[RowKit.intOf];omega
   ·have e1:lA x=1:=by unfold lA;rw[if_neg hs]
    have HF:=h_ (FN.out wr (by
     unfold rf;cases h:l.all λx=>decide (fT x)with
     |false=>rfl
     |true=>exact absurd (Sc (GJ.1 h x (ue EX.out))) hs) HOI.out.below)
    rw[e1];clear FN FY hs e1;go_wp2_with fail;(try go_ret);exact HF.out
  ·have HF:=h_ (FY.out wr _ (by have h:=HS.out;rw[np (by omega)]at h;exact h) (by rw[np (by omega)]at hoi;exact hoi));have hki: ¬(k:Int)<(l.length:Int):=by omega
   clear FN FY hoi hk hkl;go_wp2_with fail;(try go_ret);exact HF.out
end Go.Proofs.YtkmbmfengcdmoaaGreatDoor
