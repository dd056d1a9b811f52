import Derived.Test.YthnhboimcidhgaaGreatDoorEvA
namespace Go.Aug
def Zx2:List DV:=[.v (.int .u64 1),.v (.int .u64 10),.v (.int .u64 100),.v (.int .u64 1000),.v (.int .u64 10000),.v (.int .u64 100000),.v (.int .u64 1000000),.v (.int .u64 10000000),.v (.int .u64 100000000),.v (.int .u64 1000000000),.v (.int .u64 10000000000),.v (.int .u64 100000000000),.v (.int .u64 1000000000000),.v (.int .u64 10000000000000),.v (.int .u64 100000000000000),.v (.int .u64 1000000000000000),.v (.int .u64 10000000000000000),.v (.int .u64 100000000000000000),.v (.int .u64 1000000000000000000),.v (.int .u64 10000000000000000000)]
def Zz4 (g:Nat):Option (List DV):=if g=1 then some Zx2 else none
def Y1v (g:Nat):Bool:=Nat.beq g 0
def okT (_:Nat):Bool:=true
end Go.Aug
