import Derived.Test.YthnhboimcidhgaaDoorEvM
import Derived.Below
namespace Go.Aug
open Go Go.RowKit
def isT:Option (AV×List Blk)->Bool
 | some (.d (.v (.bool true)),_)=>true
 | _=>false
theorem evC_true {P:Program}(hm:P.follows .mixedOrders=true){E:Env}{fn:FuncId->Option (Env->CallT->CallT)}(hfn:∀ f F,fn f=some F->cFunc P f=some F)(hprim:PrimOk P E)(hbk:BackOk P E){n:Nat}{f:FuncId}{args:List AV}
  (h:isT (evC E fn n f args [])=true) {I:Nat->Prop} {W:World} {args':Array Value} (hI:∀ b,I b->b<W.heap.size) (hgl:Gl I W) (hv:VRs (cxI I W) args args'.toList):Calls P f args' W fun e W'=>e=.returned (.bool true)/\Below W.heap.size W W':=by
 unfold isT at h
 split at h
 ·rename_i A' he
  refine(evC_sound hm hfn hprim hbk he (c:=cxI I W) (rel_cxI hI) hgl rfl (fun i=>by simp[cxI]) hv).mono ?_
  rintro e w' ⟨X,c',rfl,rfl,fr,rel,hx,hA,hp⟩
  have hX:X=.bool true:=hx.bool_inv
  subst hX
  exact⟨rfl,fr.os,fr.tape,fr.output,fr.size,fun k hk=>fr.keep k hk fun i hp _=>hp.elim⟩
 ·simp at h
end Go.Aug
