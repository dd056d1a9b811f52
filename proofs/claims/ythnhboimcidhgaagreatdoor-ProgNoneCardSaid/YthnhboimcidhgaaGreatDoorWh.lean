import Derived.Test.YthnhboimcidhgaaGreatDoorEvX
import Derived.Test.YthnhboimcidhgaaGreatDoorEvV
namespace Go.Aug
open Go
def bindT (k:K):Option (AV×List Blk)->Ans
 | some (.tup tm,A)=>k tm A
 | _=>none
theorem steps_k (E:Env)(call:CallT):∀(l:List Stp) (k:K) (tm:List AV) (A:List Blk),steps E call l k tm A=bindT k (steps E call l endTup tm A)
 | [],k,tm,A=>rfl
 | s::l,k,tm,A=>by
  simp only[steps]
  cases hw:wantA tm s.guard with
  | none=>rfl
  | some b=>
   cases b with
   | false=>exact steps_k E call l k _ _
   | true=>
    simp only[stepW]
    cases hd:s.op E call tm A A.length with
    | none=>rfl
    | some d=>
     cases d with
     | made x bs=>exact steps_k E call l k _ _
     | turned x A1=>exact steps_k E call l k _ _
theorem steps_app (E:Env)(call:CallT)(l2:List Stp)(k:K):∀ l1:List Stp,steps E call (l1++l2) k=steps E call l1 (steps E call l2 k)
 | []=>rfl
 | s::l=>by funext tm A;simp only[List.cons_append,steps,steps_app E call l2 k l]
def pres:List (List Stp)->CT->CT
 | [],c=>c
 | l::ls,c=>cQ (cOz l) (pres ls c)
theorem pres_run (E:Env)(call:CallT)(c:CT)(kn:K)(kx:Nat->K)(kr:K):∀ ls:List (List Stp),pres ls c E call kn kx kr=steps E call ls.flatten (c E call kn kx kr)
 | []=>rfl
 | l::ls=>by
  show steps E call l (pres ls c E call kn kx kr)=_
  rw[pres_run E call c kn kx kr ls,List.flatten_cons,steps_app]
def midV (a b:Nat):Option (AV×List Blk)->AV×AV
 | some (.tup tm,_)=>(nthA tm a,nthA tm b)
 | _=>(aundef,aundef)
def low8 (w:Int):Int:=IntKind.i64.wrap ((BitVec.ofInt IntKind.i64.bits w&&&BitVec.ofInt IntKind.i64.bits 255).toNat)
theorem low8_mod (w:Int)(m:Nat)(hm:0<m):∃ n:Nat,n<m/\(low8 w).tmod (m:Int)=n:=by
 have h:∃ k:Nat,low8 w=k/\k<256:=by
  unfold low8
  have h1:(BitVec.ofInt IntKind.i64.bits w&&&BitVec.ofInt IntKind.i64.bits 255).toNat<256:=by
   rw[BitVec.toNat_and]
   have:(BitVec.ofInt IntKind.i64.bits 255).toNat=255:=by decide
   rw[this]
   exact Nat.lt_of_le_of_lt Nat.and_le_right (by omega)
  exact⟨_,wrap_small (by omega) (by omega),h1⟩
 obtain⟨k,hk,hl⟩:=h
 refine⟨k%m,Nat.mod_lt _ hm,?_⟩
 rw[hk,Int.tmod_eq_emod_of_nonneg (by omega),Int.natCast_emod]
end Go.Aug
