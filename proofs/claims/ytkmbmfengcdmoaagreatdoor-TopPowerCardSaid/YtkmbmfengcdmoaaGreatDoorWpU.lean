/- The law TopPower, for its card. Conditions: the variables of digest and strconv hold their values; the arguments lie in memory. -/
import Derived.Test.YtkmbmfengcdmoaaGreatDoorWpT
set_option linter.all false
namespace Go.Proofs.YtkmbmfengcdmoaaGreatDoor
open Go.RowKit Go.ay Go.Cs Go.Jn Go.Dk Go.Ho Go.Opn Go.Cv

theorem pG(c:cZ)(own:Int)(i:Option Addr)(n:Nat)(cF:List Int)(d:Option Addr)(m:Nat)(l:List kM)(b:Int)(W:World)(r:cB W)(q:gK W)(s:dV W c)(hz:lk c)(w:SL W 1 Cs.encI i cF)(h:cF.length*8<=140737488355328)
  (t:SL W 35 cU d l) (f:l.length<=9223372036854775807) (g:∀a∈l,BR W a) (u:(Lit.int .u8 own).wf=true) (v:(Lit.int .u16 b).wf=true):
  Calls Tryz.prog 7 #[.agg (cD c).toArray, .int .u8 own, .slice i cF.length n, .slice d l.length m, .int .u16 b] W λe w'=>e= .returned (.bool true)/\Below W.heap.size W w':=by
 have j:0<=own/\own<=255:=by
  simp[Lit.wf]at u;have o:IntKind.u8.min=0:=by decide
  have p:IntKind.u8.max=255:=by decide
  omega
 have k:0<=b/\b<=65535:=by
  simp[Lit.wf]at v;have o:IntKind.u16.min=0:=by decide
  have p:IntKind.u16.max=65535:=by decide
  omega
 exact tj c own i n cF d m l b W r q s hz w h t f g j.1 j.2 k.1 k.2
end Go.Proofs.YtkmbmfengcdmoaaGreatDoor
