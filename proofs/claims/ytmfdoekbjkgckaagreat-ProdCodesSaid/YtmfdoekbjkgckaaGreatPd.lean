import Derived.Test.YtmfdoekbjkgckaaGreatMl6
import Derived.Test.YtmfdoekbjkgckaaGreatBr
import Derived.Test.YtmfdoekbjkgckaaGreatMc36
import Derived.Test.YtmfdoekbjkgckaaGreatPg
namespace Go.Aug.Mc
open Go Go.Aug
set_option linter.unusedSimpArgs false
set_option linter.unusedVariables false
set_option maxHeartbeats 40000000
set_option maxRecDepth 200000
variable {E:Env} {fn:FuncId->Option (Env->cT->cT)}
section
variable (S:Sur E fn)
include S
end
theorem Z3v:∀ l:List Ent,(l.flatMap BG).length<=8*l.length
 | []=>Nat.le_refl _
 | e::l=>by
  have:=Z3v l
  rw[List.flatMap_cons,List.length_append,List.length_cons]
  have h:(BG e).length=8:=rfl
  omega
theorem Z3k (c:Conf):(Y3 c).length<=c.state.mem.length+c.state.stack.length+8*c.buf.length+c.rsb.length+100:=by
 have:=Z3v c.buf
 unfold Y3 JA
 simp only[List.length_append,List.length_cons,List.length_nil]
 omega
abbrev d0:Dir:=⟨0,0⟩
variable {E:Env} {fn:FuncId->Option (Env->cT->cT)}
section
variable (S:Sur E fn)
include S
end
section
variable (S:Sur E fn)
include S
end
end Go.Aug.Mc
