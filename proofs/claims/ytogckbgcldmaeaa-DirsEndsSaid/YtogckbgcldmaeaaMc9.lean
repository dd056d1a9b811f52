import Derived.Test.YtogckbgcldmaeaaMc5
namespace Go.Aug.Mc
open Go Go.Aug
set_option linter.unusedSimpArgs false
set_option linter.unusedVariables false
set_option maxHeartbeats 40000000
def resR:Option (List Int)->DV
 | none=>.tup [rowD ([]:List Int),vb false]
 | some r=>.tup [rowD r,vb true]
theorem ans_own {i:Nat}{out junk:List Int}{k:Option Nat}{A:List Blk}{b:Bool}(hA:A[i]? =some (.cells ((rowC (out++junk)).map .d) 0 false)):
  ansOf (endN 0 (some (.tup [.sref i 0 0 out.length 1 k,abool b],A)))=some (.tup [rowD out,vb b]):=by
 have hi:¬A.length<=i:=by
  intro h;rw[List.getElem?_eq_none h] at hA;cases hA
 cases out with
 | nil=>simp only[eG,go_sem,f_reach,hA,hi,List.not_mem_nil,false_or,or_false,Nat.not_lt_zero,if_false]
 | cons x xs=>
  have hd:deep [.cells ((rowC (x::xs++junk)).map .d) 0 false] 7 (.sref 0 0 0 (x::xs).length 1 k)=some (.lst (rowC (x::xs)) (x::xs).length k,[0]):=deep_junk (by simp) rfl _ _ _ rfl
  simp only[eG,go_sem,f_reach,hA,hi,List.not_mem_nil,false_or,or_false,Nat.not_lt_zero,if_false] at hd ⊢
  rw[hd]
  rfl
variable {E:Env} {fn:FuncId->Option (Env->CallT->CallT)}
section
variable (S:Sur E fn)
include S
def boolO {α:Type}:Option α->Bool
 | some _=>true
 | none=>false
def getO:Option (List Int)->List Int
 | some l=>l
 | none=>[]
end
variable {E:Env} {fn:FuncId->Option (Env->CallT->CallT)}
section
variable (S:Sur E fn)
include S
end
def fetchC (p:Prog)(c:Conf)(g:Int):Conf:=bif Md.canFetch p c g then Md.fetch p c g else Md.conf0
variable {E:Env} {fn:FuncId->Option (Env->CallT->CallT)}
section
variable (S:Sur E fn)
include S
end
end Go.Aug.Mc
