import Derived.Test.YtmfdoekbjkgckaaGreatEvA
namespace Go.Aug
def VY (_:Nat):Option (List DV):=none
def Z3q (_:Nat):Bool:=false
def DD (_:Nat):Bool:=true
end Go.Aug
