import Derived.Test.YtmfdoekbjkgckaaGreatEvA
namespace Go.Aug
def Z12 (_:Nat):Option (List DV):=none
def Z78 (_:Nat):Bool:=false
def F7 (_:Nat):Bool:=true
end Go.Aug
