import Derived.Test.YthnhboimcidhgaaGreatDoorEvX
import Derived.Test.YthnhboimcidhgaaGreatDoorEvV
namespace Go.Aug
open Go
def bindT (k:K):Option (AV×List Blk)->Ans
 | some (.tup tm,A)=>k tm A
 | _=>none
theorem steps_k (E:Env)(call:CallT):∀(l:List Stp) (k:K) (tm:List AV) (A:List Blk),steps E call l k tm A=bindT k (steps E call l endTup tm A)
 | [],k,tm,A=>rfl
 | s::l,k,tm,A=>by
  simp only[steps]
  cases hw:wantA tm s.guard with
  | none=>rfl
  | some b=>
   cases b with
   | false=>exact steps_k E call l k _ _
   | true=>
    simp only[stepW]
    cases hd:s.op E call tm A A.length with
    | none=>rfl
    | some d=>
     cases d with
     | made x bs=>exact steps_k E call l k _ _
     | turned x A1=>exact steps_k E call l k _ _
theorem steps_app (E:Env)(call:CallT)(l2:List Stp)(k:K):∀ l1:List Stp,steps E call (l1++l2) k=steps E call l1 (steps E call l2 k)
 | []=>rfl
 | s::l=>by funext tm A;simp only[List.cons_append,steps,steps_app E call l2 k l]
def pres:List (List Stp)->CT->CT
 | [],c=>c
 | l::ls,c=>cQ (cOz l) (pres ls c)
theorem pres_run (E:Env)(call:CallT)(c:CT)(kn:K)(kx:Nat->K)(kr:K):∀ ls:List (List Stp),pres ls c E call kn kx kr=steps E call ls.flatten (c E call kn kx kr)
 | []=>rfl
 | l::ls=>by
  show steps E call l (pres ls c E call kn kx kr)=_
  rw[pres_run E call c kn kx kr ls,List.flatten_cons,steps_app]
def midV (a b:Nat):Option (AV×List Blk)->AV×AV
 | some (.tup tm,_)=>(nthA tm a,nthA tm b)
 | _=>(aundef,aundef)
theorem step_rem (E:Env)(call:CallT)(l:List Stp)(k:K)(tm:List AV)(A:List Blk)(d a b:Nat)(x m:Int)(hm:m≠0)(h1:nthA tm a=.d (.v (.int .i64 x)))(h2:nthA tm b=.d (.v (.int .i64 m))):
  steps E call (⟨some d,none,oBin .rem (.t a) (.t b)⟩::l) k tm A=steps E call (⟨some d,none,oV (.c (.v (.int .i64 (x.tmod m))))⟩::l) k tm A:=by
 show goOn (some d) (steps E call l k) tm A (one? (evBin .rem (nthA tm a) (nthA tm b)))=goOn (some d) (steps E call l k) tm A (some (.made (.d (.v (.int .i64 (x.tmod m)))) []))
 rw[h1,h2]
 have:evBin .rem (.d (.v (.int .i64 x))) (.d (.v (.int .i64 m)))=some (.d (.v (.int .i64 (x.tmod m)))):=by simp[evBin,evInt,hm]
 rw[this]
 rfl
theorem which_eq {n:Nat}{rs:List IRes}{ls:List (List Stp)}{l1 l2:List Stp}{c:CT}{E:Env}{call:CallT}{f:FuncId}{args:List AV}{d a b:Nat}{x m:Int}(hm:m≠0)
  (hmid:midV a b (steps { E with live:=E.lives f,nb0:=0 } call (ls.flatten++l1) endTup (args++undefs (n-args.length)) [])=(.d (.v (.int .i64 x)),.d (.v (.int .i64 m)))):
  mkF n rs (pres ls (cQ (cOz (l1++⟨some d,none,oBin .rem (.t a) (.t b)⟩::l2)) c)) E call f args []=mkF n rs (pres ls (cQ (cOz (l1++⟨some d,none,oV (.c (.v (.int .i64 (x.tmod m))))⟩::l2)) c)) E call f args []:=by
 have e:∀ s:Stp,mkF n rs (pres ls (cQ (cOz (l1++s::l2)) c)) E call f args []=
   bindT (steps { E with live:=E.lives f,nb0:=0 } call (s::l2) (c { E with live:=E.lives f,nb0:=0 } call (kEnd 0 rs) (fun _ _ _=>none) (kEnd 0 rs))) (steps { E with live:=E.lives f,nb0:=0 } call (ls.flatten++l1) endTup (args++undefs (n-args.length)) []):=by
  intro s
  show pres ls (cQ (cOz (l1++s::l2)) c) { E with live:=E.lives f,nb0:=0 } call (kEnd 0 rs) (fun _ _ _=>none) (kEnd 0 rs) (args++undefs (n-args.length)) []=_
  rw[pres_run]
  show steps _ call ls.flatten (steps _ call (l1++s::l2) (c _ call (kEnd 0 rs) (fun _ _ _=>none) (kEnd 0 rs))) _ _=_
  rw[steps_app,<-steps_app,steps_k]
 rw[e,e]
 revert hmid
 generalize steps { E with live:=E.lives f,nb0:=0 } call (ls.flatten++l1) endTup (args++undefs (n-args.length)) []=q
 intro hmid
 cases q with
 | none=>rfl
 | some q=>
  obtain⟨x',A⟩:=q
  cases x' with
  | tup tm=>exact step_rem _ _ _ _ _ _ _ _ _ _ _ hm (congrArg Prod.fst hmid) (congrArg Prod.snd hmid)
  | _=>rfl
def low8 (w:Int):Int:=IntKind.i64.wrap ((BitVec.ofInt IntKind.i64.bits w&&&BitVec.ofInt IntKind.i64.bits 255).toNat)
theorem low8_mod (w:Int)(m:Nat)(hm:0<m):∃ n:Nat,n<m/\(low8 w).tmod (m:Int)=n:=by
 have h:∃ k:Nat,low8 w=k/\k<256:=by
  unfold low8
  have h1:(BitVec.ofInt IntKind.i64.bits w&&&BitVec.ofInt IntKind.i64.bits 255).toNat<256:=by
   rw[BitVec.toNat_and]
   have:(BitVec.ofInt IntKind.i64.bits 255).toNat=255:=by decide
   rw[this]
   exact Nat.lt_of_le_of_lt Nat.and_le_right (by omega)
  exact⟨_,wrap_small (by omega) (by omega),h1⟩
 obtain⟨k,hk,hl⟩:=h
 refine⟨k%m,Nat.mod_lt _ hm,?_⟩
 rw[hk,Int.tmod_eq_emod_of_nonneg (by omega),Int.natCast_emod]
end Go.Aug
