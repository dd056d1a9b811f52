import Derived.Test.YthnhboimcidhgaaGreatDoorEvQ
namespace Go.Aug
open Go
theorem WA.recd_inv {fs Ts:List Typ}{xs:List AV}(h:WA (.recd fs::Ts) xs):∃ cs ys,xs=.d (.agg cs)::ys/\WTs fs cs/\WA Ts ys:=by
 cases h with
 | one hT h hs=>exact absurd rfl (hT fs)
 | agg h hs=>exact⟨_,_,rfl,h,hs⟩
theorem WTs.nil_inv {cs:List DV}(h:WTs [] cs):cs=[]:=by cases h;rfl
theorem WTs.int_inv {k:IntKind}{Ts:List Typ}{cs:List DV}(h:WTs (.int k::Ts) cs):∃ n ds,cs=.v (.int k n)::ds/\WTs Ts ds:=by
 cases h with
 | cons h hs=>cases h with | int _ n hw=>exact⟨n,_,rfl,hs⟩
theorem WTs.bool_inv {Ts:List Typ}{cs:List DV}(h:WTs (.bool::Ts) cs):∃ n ds,cs=.v (.bool n)::ds/\WTs Ts ds:=by
 cases h with
 | cons h hs=>cases h with | bool b=>exact⟨b,_,rfl,hs⟩
end Go.Aug
