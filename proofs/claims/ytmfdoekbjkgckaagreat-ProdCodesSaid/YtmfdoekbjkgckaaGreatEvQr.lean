import Derived.Test.YtmfdoekbjkgckaaGreatEvQ
namespace Go.Aug
open Go
theorem WTs.nil_inv {cs:List DV}(h:WTs [] cs):cs=[]:=by cases h;rfl
theorem WTs.int_inv {k:IntKind}{Ts:List Typ}{cs:List DV}(h:WTs (.int k::Ts) cs):∃ n ds,cs=.v (.int k n)::ds/\WTs Ts ds:=by
 cases h with
 | cons h hs=>cases h with | int _ n hw=>exact⟨n,_,rfl,hs⟩
theorem WTs.bool_inv {Ts:List Typ}{cs:List DV}(h:WTs (.bool::Ts) cs):∃ n ds,cs=.v (.bool n)::ds/\WTs Ts ds:=by
 cases h with
 | cons h hs=>cases h with | bool b=>exact⟨b,_,rfl,hs⟩
end Go.Aug
