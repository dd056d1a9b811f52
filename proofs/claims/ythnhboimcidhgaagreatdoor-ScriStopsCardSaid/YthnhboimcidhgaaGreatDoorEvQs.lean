import Derived.Test.YthnhboimcidhgaaGreatDoorEvQr
import Derived.Test.YthnhboimcidhgaaGreatDoorEvTy
namespace Go.Aug
open Go
theorem WTn.dirs:∀ {n:Nat} {cs:List DV},WTn (.recd [.int .i64,.int .i64]) n cs->∃ l:List Dir,cs=rC l/\l.length=n
 | 0,_,.nil _=>⟨[],rfl,rfl⟩
 | n+1,_,.cons h hs=>by
  obtain⟨l,rfl,hl⟩:=WTn.dirs hs
  cases h with
  | recd h=>
   obtain⟨a,r1,rfl,h1⟩:=h.int_inv
   obtain⟨b,r2,rfl,h2⟩:=h1.int_inv
   obtain rfl:=h2.nil_inv
   exact⟨⟨a,b⟩::l,rfl,by simp[hl]⟩
theorem WA.dirs_inv {Ts:List Typ}{xs:List AV}(h:WA (.slice (.recd [.int .i64,.int .i64])::Ts) xs):∃(l:List Dir) (ys:List AV),xs=.d (rD l)::ys/\l.length<=maxLen/\WA Ts ys:=by
 cases h with
 | one hT h hs=>
  cases h with
  | slice hn h=>
   obtain⟨l,rfl,rfl⟩:=h.dirs
   exact⟨l,_,rfl,hn,hs⟩
end Go.Aug
