import Derived.Test.YtmfdoekbjkgckaaGreatEvPc
import Derived.Test.YtmfdoekbjkgckaaGreatPd
import Derived.Test.YtmfdoekbjkgckaaGreatSo
import Derived.Test.YtmfdoekbjkgckaaGreatMl6
import Derived.Test.YtmfdoekbjkgckaaGreatMc41
import Derived.Test.YtmfdoekbjkgckaaGreatPg
namespace Go.Aug
open Go
set_option linter.unusedSimpArgs false
section
variable {α:Type} [Cl α] [Cl1 α]
end
end Go.Aug
namespace Go.Aug
open Go
set_option linter.unusedSimpArgs false
section
variable {α:Type} [Cl α] [Cl1 α]
end
end Go.Aug
namespace Go.Aug.Mc
open Go Go.Aug
set_option linter.unusedSimpArgs false
set_option linter.unusedVariables false
set_option maxHeartbeats 40000000
set_option maxRecDepth 200000
theorem WF {A:List Blk}{i v:Nat}{F Z:List Dir}{k:Option Nat}(hA:A[i]? =some (.cells ((rC (F++Z)).map .d) v false))(h0:F.length≠0):deep A 8 (.sref i v 0 F.length 2 k)=some (.lst (rC F) F.length k,[i]):=by
 have hl:((rC F).map AV.d).length=F.length*2:=by rw[List.length_map,QH];rfl
 have hc:cellsAt A i v 0=some ((rC (F++Z)).map .d):=by simp[cellsAt,hA]
 rw[YJ,if_neg h0,hc,DB,List.map_append]
 show(if F.length*2<=((rC F).map AV.d++(rC Z).map AV.d).length then _ else _)=_
 rw[if_pos (by rw[List.length_append,hl];omega),<-hl,List.take_left,FY]
 rfl
variable {E:Env} {fn:FuncId->Option (Env->cT->cT)}
section
variable (S:Sur E fn)
include S
end
end Go.Aug.Mc
namespace Go.Aug.Md
open Go Go.Aug
set_option linter.unusedSimpArgs false
set_option linter.unusedVariables false
def JT (a b:Dir):Prop:=a.kind<b.kind∨a.kind=b.kind/\a.n<b.n
section
variable {N:Int} {p:Prog} {c:Conf}
structure Cnt (l:List Dir) (k:Nat) (d:Dir):Prop where
 le:k<=l.length
 lo:∀ e ∈ l.take k,JT e d
 hi:∀ e ∈ l.drop k,¬JT e d
theorem Cnt.begin (l:List Dir)(d:Dir)(h:∀ e ∈ l,¬JT e d):Cnt l 0 d:=⟨Nat.zero_le _,fun e h=>by simp at h,fun e he=>h e (by simpa using he)⟩
theorem Cnt.row {l:List Dir}{k:Nat}{kd m:Int}(h:Cnt l k ⟨kd,m⟩)(hm:∀ e ∈ l,0<=e.n/\e.n<m):Cnt l k ⟨kd+1,-1⟩:=by
 refine⟨h.le,fun e he=> ?_,fun e he=> ?_⟩
 ·have := h.lo e he
  unfold JT at this ⊢
  show _<kd+1∨_=kd+1/\_< -1
  have:e.kind<kd∨e.kind=kd/\e.n<m:=this
  omega
 ·have h1 : ¬ (e.kind < kd ∨ e.kind = kd /\ e.n < m) := h.hi e he
  have:=hm e (List.mem_of_mem_drop he)
  show ¬(_<kd+1∨_=kd+1/\_< -1)
  omega
theorem Cnt.end_ {l:List Dir}{k:Nat}{kd m:Int}(h:Cnt l k ⟨kd,m⟩)(hm:∀ e ∈ l,e.kind<kd):k=l.length:=by
 have h0:l.drop k=[]:=by
  cases hq:l.drop k with
  | nil=>rfl
  | cons e t=>
   have he:e ∈ l.drop k:=by rw[hq];exact List.mem_cons_self
   exact absurd (.inl (hm e (List.mem_of_mem_drop he))) (h.hi e he)
 have:=congrArg List.length h0
 rw[List.length_drop,List.length_nil] at this
 have:=h.le
 omega
end
end Go.Aug.Md
namespace Go.Aug.Mc
open Go Go.Aug
set_option linter.unusedSimpArgs false
set_option linter.unusedVariables false
end Go.Aug.Mc
namespace Go.Aug.Mc
open Go Go.Aug
set_option linter.unusedSimpArgs false
set_option linter.unusedVariables false
set_option maxHeartbeats 40000000
set_option maxRecDepth 200000
variable {E:Env} {fn:FuncId->Option (Env->cT->cT)}
section
variable (S:Sur E fn)
include S
end
end Go.Aug.Mc
