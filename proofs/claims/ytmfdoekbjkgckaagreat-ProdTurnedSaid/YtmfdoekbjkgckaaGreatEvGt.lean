import Derived.Test.YtmfdoekbjkgckaaGreatEvA
namespace Go.Aug
def Z1j (_:Nat):Option (List DV):=none
def Z7v (_:Nat):Bool:=false
def Fq (_:Nat):Bool:=true
end Go.Aug
