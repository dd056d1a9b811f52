import Derived.Test.YthnhboimcidhgaaGreatDoorWh
namespace Go.Aug
open Go
theorem step_remC (E:Env)(call:CallT)(l:List Stp)(k:K)(tm:List AV)(A:List Blk)(d a:Nat)(x m:Int)(hm:m≠0)(h1:nthA tm a=.d (.v (.int .i64 x))):
  steps E call (⟨some d,none,oBin .rem (.t a) (.c (.v (.int .i64 m)))⟩::l) k tm A=steps E call (⟨some d,none,oV (.c (.v (.int .i64 (x.tmod m))))⟩::l) k tm A:=by
 show goOn (some d) (steps E call l k) tm A (one? (evBin .rem (nthA tm a) (.d (.v (.int .i64 m)))))=goOn (some d) (steps E call l k) tm A (some (.made (.d (.v (.int .i64 (x.tmod m)))) []))
 rw[h1]
 have:evBin .rem (.d (.v (.int .i64 x))) (.d (.v (.int .i64 m)))=some (.d (.v (.int .i64 (x.tmod m)))):=by simp[evBin,evInt,hm]
 rw[this]
 rfl
theorem which_eqC {n:Nat}{rs:List IRes}{ls:List (List Stp)}{l1 l2:List Stp}{c:CT}{E:Env}{call:CallT}{f:FuncId}{args:List AV}{d a:Nat}{x m:Int}(hm:m≠0)
  (hmid:(midV a a (steps { E with live:=E.lives f,nb0:=0 } call (ls.flatten++l1) endTup (args++undefs (n-args.length)) [])).1=.d (.v (.int .i64 x))):
  mkF n rs (pres ls (cQ (cOz (l1++⟨some d,none,oBin .rem (.t a) (.c (.v (.int .i64 m)))⟩::l2)) c)) E call f args []=mkF n rs (pres ls (cQ (cOz (l1++⟨some d,none,oV (.c (.v (.int .i64 (x.tmod m))))⟩::l2)) c)) E call f args []:=by
 have e:∀ s:Stp,mkF n rs (pres ls (cQ (cOz (l1++s::l2)) c)) E call f args []=
   bindT (steps { E with live:=E.lives f,nb0:=0 } call (s::l2) (c { E with live:=E.lives f,nb0:=0 } call (kEnd 0 rs) (fun _ _ _=>none) (kEnd 0 rs))) (steps { E with live:=E.lives f,nb0:=0 } call (ls.flatten++l1) endTup (args++undefs (n-args.length)) []):=by
  intro s
  show pres ls (cQ (cOz (l1++s::l2)) c) { E with live:=E.lives f,nb0:=0 } call (kEnd 0 rs) (fun _ _ _=>none) (kEnd 0 rs) (args++undefs (n-args.length)) []=_
  rw[pres_run]
  show steps _ call ls.flatten (steps _ call (l1++s::l2) (c _ call (kEnd 0 rs) (fun _ _ _=>none) (kEnd 0 rs))) _ _=_
  rw[steps_app,<-steps_app,steps_k]
 rw[e,e]
 revert hmid
 generalize steps { E with live:=E.lives f,nb0:=0 } call (ls.flatten++l1) endTup (args++undefs (n-args.length)) []=q
 intro hmid
 cases q with
 | none=>rfl
 | some q=>
  obtain⟨x',A⟩:=q
  cases x' with
  | tup tm=>exact step_remC _ _ _ _ _ _ _ _ _ _ hm hmid
  | _=>rfl
end Go.Aug
