import Derived.Test.YtmfdoekbjkgckaaGreatEvA
namespace Go.Aug
def XM (_:Nat):Option (List DV):=none
def Z5n (_:Nat):Bool:=false
def E5 (_:Nat):Bool:=true
end Go.Aug
