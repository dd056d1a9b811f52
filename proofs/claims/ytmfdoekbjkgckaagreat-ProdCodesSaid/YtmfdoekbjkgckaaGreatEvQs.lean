import Derived.Test.YtmfdoekbjkgckaaGreatEvQr
import Derived.Test.YtmfdoekbjkgckaaGreatEvTy
namespace Go.Aug
open Go
theorem WTn.dirs:∀ {n:Nat} {cs:List DV},WTn (.recd [.int .i64,.int .i64]) n cs->∃ l:List Dir,cs=rC l/\l.length=n
 | 0,_,.nil _=>⟨[],rfl,rfl⟩
 | n+1,_,.cons h hs=>by
  obtain⟨l,rfl,hl⟩:=WTn.dirs hs
  cases h with
  | recd h=>
   obtain⟨a,r1,rfl,h1⟩:=h.int_inv
   obtain⟨b,r2,rfl,h2⟩:=h1.int_inv
   obtain rfl:=h2.nil_inv
   exact⟨⟨a,b⟩::l,rfl,by simp[hl]⟩
end Go.Aug
