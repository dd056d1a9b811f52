import Derived.Test.YtmfdoekbjkgckaaGreatEvM
import Derived.Below
namespace Go.Aug
open Go Go.RowKit
def K3:Option (AV×List Blk)->Bool
 | some (.d (.v (.bool true)),_)=>true
 | _=>false
theorem Zgk {P:Program}(hm:P.follows .mixedOrders=true){E:Env}{fn:FuncId->Option (Env->cT->cT)}(hfn:∀ f F,fn f=some F->RR P f F)(hprim:KN P E)(hbk:ED P E){n:Nat}{f:FuncId}{args:List AV}
  (h:K3 (Z5 E fn n f args [])=true) {I:Nat->Prop} {W:World} {args':Array Value} (hI:∀ b,I b->b<W.heap.size) (hgl:Gl I W) (hv:VRs (BV I W) args args'.toList):Calls P f args' W fun e W'=>e=.returned (.bool true)/\Below W.heap.size W W':=by
 unfold K3 at h
 split at h
 ·rename_i A' he
  refine(Wj hm hfn hprim hbk he (c:=BV I W) (KW hI) hgl rfl (fun i=>by simp[BV]) hv).mono ?_
  rintro e w' ⟨X,c',rfl,rfl,fr,rel,hx,hA,hp⟩
  have hX:X=.bool true:=hx.bool_inv
  subst hX
  exact⟨rfl,fr.os,fr.tape,fr.output,fr.size,fun k hk=>fr.keep k hk fun i hp _=>hp.elim⟩
 ·simp at h
theorem Zco {P:Program}(hm:P.follows .mixedOrders=true){E:Env}{fn:FuncId->Option (Env->cT->cT)}(hfn:∀ f F,fn f=some F->RR P f F)(hprim:KN P E)(hbk:ED P E){n:Nat}{f:FuncId}(hent:Enters P f)
  (h:K3 (Z5 E fn n f [] [])=true):Enters P f/\∀ ds x Ac,(match ds with | []=>some (.d (.v (.bool true)),[]) | _=>none:Option (AV×List Blk))=some (x,Ac)->∀(I:Nat->Prop) (w:World) (args:Array Value),(∀ b,I b->b<w.heap.size)->Gl I w->DRs I w ds args.toList->Calls P f args w (MN I w x Ac):=by
 refine⟨hent,fun ds x Ac hg I w args hI hgl hd=> ?_⟩
 split at hg
 ·simp at hg
  obtain⟨rfl,rfl⟩:=hg
  unfold K3 at h
  have hds:args.toList=[]:=by
   revert hd
   generalize args.toList=L
   intro hd
   cases hd;rfl
  split at h
  ·rename_i A' he
   refine(Wj hm hfn hprim hbk he (c:=⟨I,fun _=>0,w,[],fun _=>False⟩) ⟨fun _ _ hp=>hp.elim,fun _ _ hp=>hp.elim,hI⟩ hgl rfl (fun i=>by simp) (by rw[hds];exact .nil)).mono fun e w' ht=> ?_
   have:=SE ht
   obtain⟨X,c1,rfl,rfl,k,hr1,hA,hx,g1,g2,g3⟩:=this
   have hX:X=.bool true:=hx.bool_inv
   subst hX
   exact⟨_,{ c1 with A:=[],Pr:=fun _=>False },rfl,rfl,k,⟨fun _ _ hp=>hp.elim,fun _ _ hp=>hp.elim,hr1.lt⟩,rfl,.d (.v _ rfl),g1,g2,fun _ hp=>hp.elim⟩
  ·simp at h
 ·simp at hg
end Go.Aug
