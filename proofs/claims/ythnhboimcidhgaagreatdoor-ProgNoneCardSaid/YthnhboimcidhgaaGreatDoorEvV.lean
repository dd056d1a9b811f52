import Derived.Test.YthnhboimcidhgaaGreatDoorEvN
import Derived.Test.YthnhboimcidhgaaGreatDoorEvY
namespace Go.Aug
open Go
def E0:Env:={ br:=[],th:=[],prim:=fun _=>none,back:=fun _=>none }
theorem prim0 (P:Program):PrimOk P E0:=fun f g h=>by simp[E0] at h
def cloneF (key s bytes:Nat)(z:List AV):Env->CallT->CallT:=
 mkF 8 [.tmp 2] (cQ (cOz [⟨(some 2),none,oV (.c (.lst [] 0 (some 0)))⟩]) (cQ (cQ (cOz [⟨(some 3),none,oV (.t 0)⟩,⟨(some 4),none,oEq false .slice (.t 3) (.c (.v (.slice none 0 0)))⟩])
  (cCond key (.t 4) (cQ (cOz [⟨(some 2),none,oV (.c (.lst [] 0 (some 0)))⟩]) (cRet)) (cSkip)))
  (cQ (cOz [⟨(some 5),none,oMkS (rep z 0) 0 s []⟩,⟨(some 6),none,oV (.t 0)⟩,⟨(some 7),none,oApp false s bytes (.t 5) (.t 6)⟩,⟨(some 2),none,oV (.t 7)⟩]) (cRet))))
section
variable {P:Program} {f key s bytes:Nat} {z:List AV} {fn:FuncId->Option (Env->CallT->CallT)} (hf:fn f=some (cloneF key s bytes z))
include hf
end
end Go.Aug
